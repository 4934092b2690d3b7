/- ConfMay: for every input the call returns true, and each argument reads afterwards as it read before: the row, over the walk. No condition. -/
import Derived.Test.YthcjcgagbpfkpaaRows
import Derived.Test.YthcjcgagbpfkpaaConfMay
import Derived.Test.YthcjcgagbpfkpaaOpenInts
import Derived.Test.YthcjcgagbpfkpaaFacts
namespace Go.Proofs.Ythcjcgagbpfkpaa.confMay
open Go.ChangeShapes Go.WideShapes Go.ChangeAt Go.RowKit
open Go.ChangeMaps (open_string shut_string)
set_option linter.unusedVariables false


set_option maxRecDepth 100000 in
theorem lifted (os : Os) (started : os.Started) (H : Type) (enc : TypeId × Value → H) :
    ReturnsInHanded {} Try.checked os 17 .any (Rows.confMaySpec.pre6 enc Try.prog Try.f17 Rows.confMayRow.domain false) (Rows.confMaySpec.post enc Try.prog Try.f17 false true false false) := by
  refine returnsInHanded_of_change_sized (C := Try.checked) pf_own started (by kernel_rfl) Try.func17
    (ChangeSpec.witness6 (enc := enc) (C := Try.checked) false ⟨#[], #[.agg #[.int .i64 0, .int .i64 0, .int .i64 0, .int .i64 0, .int .i64 0, .int .i64 0, .int .i64 0, .int .i64 0, .int .i64 0], .slice none 0 0], []⟩ 8 (by kernel_rfl) (by kernel_rfl) (by kernel_rfl) (by kernel_rfl)) ?_
  intro W base args ds gs before hval0 hW hcnd hsz0 _
  have hval : ∀ (j : Nat) t v, Try.f17.params[j]? = some t → args[j]? = some v → Value.okWide Try.prog W .any base t v := hval0
  have hsz : (DataW.weightsEach Try.prog (Try.f17.params.toList ++ Rows.confMaySpec.plain.varTypes Try.prog) (ds ++ gs)).all (· ≤ reachBytes) = true := hsz0
  have hW' := hW
  obtain ⟨p, q, hA0, hV, rfl, hfz, hnd⟩ := hW
  have hA : DataW.TrodAll enc Try.prog W 0 (fun _ => true) true Try.f17.params.toList args.toList ds p := hA0
  rw [Try.params17] at hA hval hsz
  obtain ⟨v0, vs0, d0, ds0, p0, q0, hargs, rfl, rfl, h0, r0⟩ := trodAll_cons hA
  obtain ⟨v1, vs1, d1, ds1, p1, q1, rfl, rfl, rfl, h1, r1⟩ := trodAll_cons r0
  obtain ⟨rfl, rfl, rfl⟩ := trodAll_nil r1
  obtain rfl : args = #[v0, v1] := by cases args; simp_all
  obtain ⟨rfl, rfl⟩ := trodVars_none hV
  have k0 := h0
  have lt0 : ∀ x ∈ p0, x.block < W.heap.size := by obtain ⟨m, hm⟩ := k0; exact DataW.trod_lt m _ _ _ hm
  have k1 := h1
  have lt1 : ∀ x ∈ p1, x.block < W.heap.size := by obtain ⟨m, hm⟩ := k1; exact DataW.trod_lt m _ _ _ hm
  obtain ⟨q0_0, q1_0, q2_0, q3_0, q4_0, q5_0, q6_0, q7_0, q8_0, rfl, ⟨Lq0_0, Uq0_0⟩, ⟨Lq1_0, Uq1_0⟩, ⟨Lq2_0, Uq2_0⟩, ⟨Lq3_0, Uq3_0⟩, ⟨Lq4_0, Uq4_0⟩, ⟨Lq5_0, Uq5_0⟩, ⟨Lq6_0, Uq6_0⟩, ⟨Lq7_0, Uq7_0⟩, ⟨Lq8_0, Uq8_0⟩⟩ := open_conf hsz (j := 0) rfl rfl (hval 0 62 v0 rfl rfl) h0
  obtain ⟨A1, L1, C1, Z1, rfl, e1, i1⟩ := open_inums Try.underlying88 Try.underlying3 (by kernel_rfl) (hval 1 88 v1 rfl rfl) h1
  clear hA0 hval0
  refine (confMay_walk q0_0 Lq0_0 Uq0_0 q1_0 Lq1_0 Uq1_0 q2_0 Lq2_0 Uq2_0 q3_0 Lq3_0 Uq3_0 q4_0 Lq4_0 Uq4_0 q5_0 Lq5_0 Uq5_0 q6_0 Lq6_0 Uq6_0 q7_0 Lq7_0 Uq7_0 q8_0 Lq8_0 Uq8_0 A1 L1 C1 Z1 e1 W i1).mono fun e W' ⟨he, hk⟩ => ?_
  subst he
  have bel := hk.below (Nat.le_refl _) (fun _ hx => by cases hx)
  exact ⟨_, rfl, _, _, _, [], _, [], hW', trodAll_mk1 (shut_bool Try.underlying4 _), (trodAll_cons_mk (Below.trod pf_laidOut (by kernel_rfl) (of_decide_eq_true (by kernel_rfl)) k0 bel lt0) (trodAll_cons_mk (Below.trod pf_laidOut (by kernel_rfl) (of_decide_eq_true (by kernel_rfl)) k1 bel lt1) trodAll_mk0)), rfl, bel.frame _, fun h => by cases h⟩

theorem k0 : (Rows.confMayRow.wf (OpenSpec.ofChange Rows.confMaySpec)) = true := by kernel_rfl
theorem k3 : (Try.f17.params.all (Try.prog.readableRec ·)) = true := by kernel_rfl
theorem k4 : (namedTie Try.prog Rows.confMayRow.named Rows.confMaySpec.vars) = true := by kernel_rfl
theorem k9 : (Rows.confMayRow.inPlace == Try.prog.inPlace 17) = true := by kernel_rfl
theorem k10 : (Rows.confMayRow.unfollowed == Try.prog.unfollowed 17) = true := by kernel_rfl
theorem k11 : (Rows.confMayRow.recurses == Try.prog.recurses 17) = true := by kernel_rfl
theorem k12 : (Rows.confMayRow.named == Try.prog.varsNamed 17) = true := by kernel_rfl
theorem k13 : (Rows.confMayRow.maps == (Try.f17.params.toList ++ Rows.confMaySpec.plain.varTypes Try.prog).any (Try.prog.mapsRec ·)) = true := by kernel_rfl
theorem k14 : (Rows.confMayRow.ifaces == (Try.f17.params.toList ++ Rows.confMaySpec.plain.varTypes Try.prog).any (Try.prog.ifacesRec ·)) = true := by kernel_rfl
theorem k15 : (Rows.confMayRow.mapsOut == Try.prog.mapsAmong Try.f17.resultTypes.toList) = true := by kernel_rfl
theorem k16 : (Rows.confMayRow.loops == (Try.f17.params.toList ++ Rows.confMaySpec.plain.varTypes Try.prog).any (Try.prog.loopsFrom ·)) = true := by kernel_rfl
theorem k17 : (Rows.confMayRow.wideKeys == (Try.f17.params.toList ++ Rows.confMaySpec.plain.varTypes Try.prog ++ Try.f17.resultTypes.toList).any (Try.prog.wideKeysFrom ·)) = true := by kernel_rfl
theorem k19 : (Try.f17.resultTypes.all (fun t => Try.prog.readableRec t && decide (t < Try.prog.types.size))) = true := by kernel_rfl
theorem k20 : (Rows.confMayRow.ifacesOut == Try.f17.resultTypes.toList.any (Try.prog.ifacesRec ·)) = true := by kernel_rfl
theorem k21 : (Rows.confMayRow.loopsOut == Try.f17.resultTypes.toList.any (Try.prog.loopsFrom ·)) = true := by kernel_rfl
theorem k28 (l : List (Option IntKind)) : (Rows.confMayRow.kinds == (if Rows.confMayRow.domain.isEmpty = true then [] else l)) = true := by rw [if_pos (by kernel_rfl)]; kernel_rfl
theorem k29 : (Rows.confMayRow.pinned == Rows.confMayRow.pinnedBy) = true := by kernel_rfl
theorem k30 : (Rows.confMayRow.veiled == (Try.f17.params.toList ++ Rows.confMaySpec.plain.varTypes Try.prog ++ Try.f17.resultTypes.toList).any (Try.prog.veiledRec ·)) = true := by kernel_rfl
theorem k31 : (Rows.confMayRow.veiledFits Try.prog Try.f17.params.toList (Try.f17.params.toList ++ Rows.confMaySpec.plain.varTypes Try.prog ++ Try.f17.resultTypes.toList)) = true := by kernel_rfl
theorem k5 : (Rows.confMayRow.stops == []) = true := by kernel_rfl
theorem k7 : (Rows.confMayRow.knobs == []) = true := by kernel_rfl
theorem k18 : (Rows.confMaySpec.vars.all (Try.prog.varReadable ·)) = true := by kernel_rfl
theorem k23 : (Rows.confMayRow.shortTexts.isNone) = true := by kernel_rfl
theorem k22 : (Rows.confMayRow.plainKeys == Try.prog.plainKeys) = true := by rw [pf_plainKeys]; kernel_rfl
theorem k26 : (Rows.confMayRow.lifted == Try.prog.liftsFinal) = true := pf_liftsFinal
theorem k27 : (Try.prog.make == some Rows.confMayRow.make) = true := pf_make
theorem closed : joinedFacts Try.prog 17 Try.f17 Rows.confMaySpec Rows.confMayRow = true := by
  unfold joinedFacts
  exact (and_mk (and_mk (and_mk (and_mk (and_mk (and_mk (and_mk (and_mk (and_mk (and_mk (and_mk (and_mk (and_mk (and_mk (and_mk (and_mk (and_mk (and_mk (and_mk (and_mk (and_mk (and_mk (and_mk (and_mk (and_mk (and_mk (and_mk (and_mk (and_mk (and_mk (and_mk k0 pf_laidOut) pf_mapsRowed) k3) k4) k5) pf_stops) k7) pf_stopKnobs) k9) k10) k11) k12) k13) k14) k15) k16) k17) k18) k19) k20) k21) k22) k23) pf_stopsHeard) pf_mayEnter) k26) k27) (k28 _)) k29) k30) k31)
theorem named : Try.prog.funcNamed Rows.confMayRow.func = some 17 := by kernel_rfl
theorem wrapper : Try.f17.isWrapper Try.prog Rows.confMayRow.wrapper Rows.confMayRow.mainSum := by
  unfold Func.isWrapper
  rw [if_neg (of_decide_eq_false (by kernel_rfl))]
  exact ⟨rfl, rfl⟩

theorem over : Rows.confMayRow.holds Try.pinned (OpenSpec.ofChange Rows.confMaySpec) :=
  OpenClaim.holds_of_wide 17 Try.f17 rfl rfl rfl rfl rfl rfl rfl ⟨rfl, rfl, rfl, rfl, rfl⟩ rfl rfl rfl rfl rfl named Try.func17 closed
    (of_decide_eq_true (by kernel_rfl)) wrapper
    (fun os started H enc _ => lifted os started H enc)

theorem proved : Rows.ConfMaySaid := over
#print axioms proved
end Go.Proofs.Ythcjcgagbpfkpaa.confMay

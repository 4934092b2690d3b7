/- HelloBack: for every input the call returns true, and each argument reads afterwards as it read before: the row, over the walk. No condition. -/
import Derived.Test.YthcjcgagbpfkpaaRows
import Derived.Test.YthcjcgagbpfkpaaHelloBack
import Derived.Test.YthcjcgagbpfkpaaOpen
import Derived.Test.YthcjcgagbpfkpaaFacts
namespace Go.Proofs.Ythcjcgagbpfkpaa.helloBack
open Go.ChangeShapes Go.WideShapes Go.ChangeAt Go.RowKit
open Go.ChangeMaps (open_string shut_string)
set_option linter.unusedVariables false


set_option maxRecDepth 100000 in
theorem lifted (os : Os) (started : os.Started) (H : Type) (enc : TypeId × Value → H) :
    ReturnsInHanded {} Try.checked os 14 .any (Rows.helloBackSpec.pre6 enc Try.prog Try.f14 Rows.helloBackRow.domain false) (Rows.helloBackSpec.post enc Try.prog Try.f14 false true false false) := by
  refine returnsInHanded_of_change_sized (C := Try.checked) pf_own started (by kernel_rfl) Try.func14
    (ChangeSpec.witness6 (enc := enc) (C := Try.checked) false ⟨#[], #[.agg #[.int .i64 0, .int .i64 0, .int .u64 0], .string ⟨#[]⟩], []⟩ 8 (by kernel_rfl) (by kernel_rfl) (by kernel_rfl) (by kernel_rfl)) ?_
  intro W base args ds gs before hval0 hW hcnd hsz0 _
  have hval : ∀ (j : Nat) t v, Try.f14.params[j]? = some t → args[j]? = some v → Value.okWide Try.prog W .any base t v := hval0
  have hsz : (DataW.weightsEach Try.prog (Try.f14.params.toList ++ Rows.helloBackSpec.plain.varTypes Try.prog) (ds ++ gs)).all (· ≤ reachBytes) = true := hsz0
  have hW' := hW
  obtain ⟨p, q, hA0, hV, rfl, hfz, hnd⟩ := hW
  have hA : DataW.TrodAll enc Try.prog W 0 (fun _ => true) true Try.f14.params.toList args.toList ds p := hA0
  rw [Try.params14] at hA hval hsz
  obtain ⟨v0, vs0, d0, ds0, p0, q0, hargs, rfl, rfl, h0, r0⟩ := trodAll_cons hA
  obtain ⟨v1, vs1, d1, ds1, p1, q1, rfl, rfl, rfl, h1, r1⟩ := trodAll_cons r0
  obtain ⟨rfl, rfl, rfl⟩ := trodAll_nil r1
  obtain rfl : args = #[v0, v1] := by cases args; simp_all
  obtain ⟨rfl, rfl⟩ := trodVars_none hV
  have k0 := h0
  have lt0 : ∀ x ∈ p0, x.block < W.heap.size := by obtain ⟨m, hm⟩ := k0; exact DataW.trod_lt m _ _ _ hm
  have k1 := h1
  have lt1 : ∀ x ∈ p1, x.block < W.heap.size := by obtain ⟨m, hm⟩ := k1; exact DataW.trod_lt m _ _ _ hm
  obtain ⟨ow0, ep0, tag0, rfl, ⟨Low0, Uow0⟩, ⟨Lep0, Uep0⟩, Btag0⟩ := open_hello hsz (j := 0) rfl rfl (hval 0 100 v0 rfl rfl) h0
  obtain ⟨s1, rfl, rfl, rfl, m1⟩ := open_string Try.underlying9 (hval 1 9 v1 rfl rfl) h1
  have z1 : s1.size ≤ 140737488351232 := sized_string hsz (j := 1) rfl rfl
  clear hA0 hval0
  refine (helloBack_walk ow0 Low0 Uow0 ep0 Lep0 Uep0 tag0 Btag0 s1 z1 W).mono fun e W' ⟨he, hk⟩ => ?_
  subst he
  have bel := hk.below (Nat.le_refl _) (fun _ hx => by cases hx)
  exact ⟨_, rfl, _, _, _, [], _, [], hW', trodAll_mk1 (shut_bool Try.underlying4 _), (trodAll_cons_mk (Below.trod pf_laidOut (by kernel_rfl) (of_decide_eq_true (by kernel_rfl)) k0 bel lt0) (trodAll_cons_mk (Below.trod pf_laidOut (by kernel_rfl) (of_decide_eq_true (by kernel_rfl)) k1 bel lt1) trodAll_mk0)), rfl, bel.frame _, fun h => by cases h⟩

theorem k0 : (Rows.helloBackRow.wf (OpenSpec.ofChange Rows.helloBackSpec)) = true := by kernel_rfl
theorem k3 : (Try.f14.params.all (Try.prog.readableRec ·)) = true := by kernel_rfl
theorem k4 : (namedTie Try.prog Rows.helloBackRow.named Rows.helloBackSpec.vars) = true := by kernel_rfl
theorem k9 : (Rows.helloBackRow.inPlace == Try.prog.inPlace 14) = true := by kernel_rfl
theorem k10 : (Rows.helloBackRow.unfollowed == Try.prog.unfollowed 14) = true := by kernel_rfl
theorem k11 : (Rows.helloBackRow.recurses == Try.prog.recurses 14) = true := by kernel_rfl
theorem k12 : (Rows.helloBackRow.named == Try.prog.varsNamed 14) = true := by kernel_rfl
theorem k13 : (Rows.helloBackRow.maps == (Try.f14.params.toList ++ Rows.helloBackSpec.plain.varTypes Try.prog).any (Try.prog.mapsRec ·)) = true := by kernel_rfl
theorem k14 : (Rows.helloBackRow.ifaces == (Try.f14.params.toList ++ Rows.helloBackSpec.plain.varTypes Try.prog).any (Try.prog.ifacesRec ·)) = true := by kernel_rfl
theorem k15 : (Rows.helloBackRow.mapsOut == Try.prog.mapsAmong Try.f14.resultTypes.toList) = true := by kernel_rfl
theorem k16 : (Rows.helloBackRow.loops == (Try.f14.params.toList ++ Rows.helloBackSpec.plain.varTypes Try.prog).any (Try.prog.loopsFrom ·)) = true := by kernel_rfl
theorem k17 : (Rows.helloBackRow.wideKeys == (Try.f14.params.toList ++ Rows.helloBackSpec.plain.varTypes Try.prog ++ Try.f14.resultTypes.toList).any (Try.prog.wideKeysFrom ·)) = true := by kernel_rfl
theorem k19 : (Try.f14.resultTypes.all (fun t => Try.prog.readableRec t && decide (t < Try.prog.types.size))) = true := by kernel_rfl
theorem k20 : (Rows.helloBackRow.ifacesOut == Try.f14.resultTypes.toList.any (Try.prog.ifacesRec ·)) = true := by kernel_rfl
theorem k21 : (Rows.helloBackRow.loopsOut == Try.f14.resultTypes.toList.any (Try.prog.loopsFrom ·)) = true := by kernel_rfl
theorem k28 (l : List (Option IntKind)) : (Rows.helloBackRow.kinds == (if Rows.helloBackRow.domain.isEmpty = true then [] else l)) = true := by rw [if_pos (by kernel_rfl)]; kernel_rfl
theorem k29 : (Rows.helloBackRow.pinned == Rows.helloBackRow.pinnedBy) = true := by kernel_rfl
theorem k30 : (Rows.helloBackRow.veiled == (Try.f14.params.toList ++ Rows.helloBackSpec.plain.varTypes Try.prog ++ Try.f14.resultTypes.toList).any (Try.prog.veiledRec ·)) = true := by kernel_rfl
theorem k31 : (Rows.helloBackRow.veiledFits Try.prog Try.f14.params.toList (Try.f14.params.toList ++ Rows.helloBackSpec.plain.varTypes Try.prog ++ Try.f14.resultTypes.toList)) = true := by kernel_rfl
theorem k5 : (Rows.helloBackRow.stops == []) = true := by kernel_rfl
theorem k7 : (Rows.helloBackRow.knobs == []) = true := by kernel_rfl
theorem k18 : (Rows.helloBackSpec.vars.all (Try.prog.varReadable ·)) = true := by kernel_rfl
theorem k23 : (Rows.helloBackRow.shortTexts.isNone) = true := by kernel_rfl
theorem k22 : (Rows.helloBackRow.plainKeys == Try.prog.plainKeys) = true := by rw [pf_plainKeys]; kernel_rfl
theorem k26 : (Rows.helloBackRow.lifted == Try.prog.liftsFinal) = true := pf_liftsFinal
theorem k27 : (Try.prog.make == some Rows.helloBackRow.make) = true := pf_make
theorem closed : joinedFacts Try.prog 14 Try.f14 Rows.helloBackSpec Rows.helloBackRow = true := by
  unfold joinedFacts
  exact (and_mk (and_mk (and_mk (and_mk (and_mk (and_mk (and_mk (and_mk (and_mk (and_mk (and_mk (and_mk (and_mk (and_mk (and_mk (and_mk (and_mk (and_mk (and_mk (and_mk (and_mk (and_mk (and_mk (and_mk (and_mk (and_mk (and_mk (and_mk (and_mk (and_mk (and_mk k0 pf_laidOut) pf_mapsRowed) k3) k4) k5) pf_stops) k7) pf_stopKnobs) k9) k10) k11) k12) k13) k14) k15) k16) k17) k18) k19) k20) k21) k22) k23) pf_stopsHeard) pf_mayEnter) k26) k27) (k28 _)) k29) k30) k31)
theorem named : Try.prog.funcNamed Rows.helloBackRow.func = some 14 := by kernel_rfl
theorem wrapper : Try.f14.isWrapper Try.prog Rows.helloBackRow.wrapper Rows.helloBackRow.mainSum := by
  unfold Func.isWrapper
  rw [if_neg (of_decide_eq_false (by kernel_rfl))]
  exact ⟨rfl, rfl⟩

theorem over : Rows.helloBackRow.holds Try.pinned (OpenSpec.ofChange Rows.helloBackSpec) :=
  OpenClaim.holds_of_wide 14 Try.f14 rfl rfl rfl rfl rfl rfl rfl ⟨rfl, rfl, rfl, rfl, rfl⟩ rfl rfl rfl rfl rfl named Try.func14 closed
    (of_decide_eq_true (by kernel_rfl)) wrapper
    (fun os started H enc _ => lifted os started H enc)

theorem proved : Rows.HelloBackSaid := over
#print axioms proved
end Go.Proofs.Ythcjcgagbpfkpaa.helloBack

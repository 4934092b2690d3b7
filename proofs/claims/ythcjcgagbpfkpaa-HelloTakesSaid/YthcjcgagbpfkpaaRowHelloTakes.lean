/- HelloTakes: for every input the call returns true, and each argument reads afterwards as it read before: the row, over the walk. No condition. -/
import Derived.Test.YthcjcgagbpfkpaaRows
import Derived.Test.YthcjcgagbpfkpaaHelloTakes
import Derived.Test.YthcjcgagbpfkpaaOpen
import Derived.Test.YthcjcgagbpfkpaaFacts
namespace Go.Proofs.Ythcjcgagbpfkpaa.helloTakes
open Go.ChangeShapes Go.WideShapes Go.ChangeAt Go.RowKit
open Go.ChangeMaps (open_string shut_string)
set_option linter.unusedVariables false


set_option maxRecDepth 100000 in
theorem lifted (os : Os) (started : os.Started) (H : Type) (enc : TypeId × Value → H) :
    ReturnsInHanded {} Try.checked os 13 .any (Rows.helloTakesSpec.pre6 enc Try.prog Try.f13 Rows.helloTakesRow.domain false) (Rows.helloTakesSpec.post enc Try.prog Try.f13 false true false false) := by
  refine returnsInHanded_of_change_sized (C := Try.checked) pf_own started (by kernel_rfl) Try.func13
    (ChangeSpec.witness6 (enc := enc) (C := Try.checked) false ⟨#[], #[.agg #[.int .i64 0, .int .i64 0, .int .u64 0], .string ⟨#[]⟩], []⟩ 8 (by kernel_rfl) (by kernel_rfl) (by kernel_rfl) (by kernel_rfl)) ?_
  intro W base args ds gs before hval0 hW hcnd hsz0 _
  have hval : ∀ (j : Nat) t v, Try.f13.params[j]? = some t → args[j]? = some v → Value.okWide Try.prog W .any base t v := hval0
  have hsz : (DataW.weightsEach Try.prog (Try.f13.params.toList ++ Rows.helloTakesSpec.plain.varTypes Try.prog) (ds ++ gs)).all (· ≤ reachBytes) = true := hsz0
  have hW' := hW
  obtain ⟨p, q, hA0, hV, rfl, hfz, hnd⟩ := hW
  have hA : DataW.TrodAll enc Try.prog W 0 (fun _ => true) true Try.f13.params.toList args.toList ds p := hA0
  rw [Try.params13] at hA hval hsz
  obtain ⟨v0, vs0, d0, ds0, p0, q0, hargs, rfl, rfl, h0, r0⟩ := trodAll_cons hA
  obtain ⟨v1, vs1, d1, ds1, p1, q1, rfl, rfl, rfl, h1, r1⟩ := trodAll_cons r0
  obtain ⟨rfl, rfl, rfl⟩ := trodAll_nil r1
  obtain rfl : args = #[v0, v1] := by cases args; simp_all
  obtain ⟨rfl, rfl⟩ := trodVars_none hV
  have k0 := h0
  have lt0 : ∀ x ∈ p0, x.block < W.heap.size := by obtain ⟨m, hm⟩ := k0; exact DataW.trod_lt m _ _ _ hm
  have k1 := h1
  have lt1 : ∀ x ∈ p1, x.block < W.heap.size := by obtain ⟨m, hm⟩ := k1; exact DataW.trod_lt m _ _ _ hm
  obtain ⟨ow0, ep0, tag0, rfl, ⟨Low0, Uow0⟩, ⟨Lep0, Uep0⟩, Btag0⟩ := open_hello hsz (j := 0) rfl rfl (hval 0 100 v0 rfl rfl) h0
  obtain ⟨s1, rfl, rfl, rfl, m1⟩ := open_string Try.underlying9 (hval 1 9 v1 rfl rfl) h1
  have z1 : s1.size ≤ 140737488351232 := sized_string hsz (j := 1) rfl rfl
  clear hA0 hval0
  refine (helloTakes_walk ow0 Low0 Uow0 ep0 Lep0 Uep0 tag0 Btag0 s1 z1 W).mono fun e W' ⟨he, hk⟩ => ?_
  subst he
  have bel := hk.below (Nat.le_refl _) (fun _ hx => by cases hx)
  exact ⟨_, rfl, _, _, _, [], _, [], hW', trodAll_mk1 (shut_bool Try.underlying4 _), (trodAll_cons_mk (Below.trod pf_laidOut (by kernel_rfl) (of_decide_eq_true (by kernel_rfl)) k0 bel lt0) (trodAll_cons_mk (Below.trod pf_laidOut (by kernel_rfl) (of_decide_eq_true (by kernel_rfl)) k1 bel lt1) trodAll_mk0)), rfl, bel.frame _, fun h => by cases h⟩

theorem k0 : (Rows.helloTakesRow.wf (OpenSpec.ofChange Rows.helloTakesSpec)) = true := by kernel_rfl
theorem k3 : (Try.f13.params.all (Try.prog.readableRec ·)) = true := by kernel_rfl
theorem k4 : (namedTie Try.prog Rows.helloTakesRow.named Rows.helloTakesSpec.vars) = true := by kernel_rfl
theorem k9 : (Rows.helloTakesRow.inPlace == Try.prog.inPlace 13) = true := by kernel_rfl
theorem k10 : (Rows.helloTakesRow.unfollowed == Try.prog.unfollowed 13) = true := by kernel_rfl
theorem k11 : (Rows.helloTakesRow.recurses == Try.prog.recurses 13) = true := by kernel_rfl
theorem k12 : (Rows.helloTakesRow.named == Try.prog.varsNamed 13) = true := by kernel_rfl
theorem k13 : (Rows.helloTakesRow.maps == (Try.f13.params.toList ++ Rows.helloTakesSpec.plain.varTypes Try.prog).any (Try.prog.mapsRec ·)) = true := by kernel_rfl
theorem k14 : (Rows.helloTakesRow.ifaces == (Try.f13.params.toList ++ Rows.helloTakesSpec.plain.varTypes Try.prog).any (Try.prog.ifacesRec ·)) = true := by kernel_rfl
theorem k15 : (Rows.helloTakesRow.mapsOut == Try.prog.mapsAmong Try.f13.resultTypes.toList) = true := by kernel_rfl
theorem k16 : (Rows.helloTakesRow.loops == (Try.f13.params.toList ++ Rows.helloTakesSpec.plain.varTypes Try.prog).any (Try.prog.loopsFrom ·)) = true := by kernel_rfl
theorem k17 : (Rows.helloTakesRow.wideKeys == (Try.f13.params.toList ++ Rows.helloTakesSpec.plain.varTypes Try.prog ++ Try.f13.resultTypes.toList).any (Try.prog.wideKeysFrom ·)) = true := by kernel_rfl
theorem k19 : (Try.f13.resultTypes.all (fun t => Try.prog.readableRec t && decide (t < Try.prog.types.size))) = true := by kernel_rfl
theorem k20 : (Rows.helloTakesRow.ifacesOut == Try.f13.resultTypes.toList.any (Try.prog.ifacesRec ·)) = true := by kernel_rfl
theorem k21 : (Rows.helloTakesRow.loopsOut == Try.f13.resultTypes.toList.any (Try.prog.loopsFrom ·)) = true := by kernel_rfl
theorem k28 (l : List (Option IntKind)) : (Rows.helloTakesRow.kinds == (if Rows.helloTakesRow.domain.isEmpty = true then [] else l)) = true := by rw [if_pos (by kernel_rfl)]; kernel_rfl
theorem k29 : (Rows.helloTakesRow.pinned == Rows.helloTakesRow.pinnedBy) = true := by kernel_rfl
theorem k30 : (Rows.helloTakesRow.veiled == (Try.f13.params.toList ++ Rows.helloTakesSpec.plain.varTypes Try.prog ++ Try.f13.resultTypes.toList).any (Try.prog.veiledRec ·)) = true := by kernel_rfl
theorem k31 : (Rows.helloTakesRow.veiledFits Try.prog Try.f13.params.toList (Try.f13.params.toList ++ Rows.helloTakesSpec.plain.varTypes Try.prog ++ Try.f13.resultTypes.toList)) = true := by kernel_rfl
theorem k5 : (Rows.helloTakesRow.stops == []) = true := by kernel_rfl
theorem k7 : (Rows.helloTakesRow.knobs == []) = true := by kernel_rfl
theorem k18 : (Rows.helloTakesSpec.vars.all (Try.prog.varReadable ·)) = true := by kernel_rfl
theorem k23 : (Rows.helloTakesRow.shortTexts.isNone) = true := by kernel_rfl
theorem k22 : (Rows.helloTakesRow.plainKeys == Try.prog.plainKeys) = true := by rw [pf_plainKeys]; kernel_rfl
theorem k26 : (Rows.helloTakesRow.lifted == Try.prog.liftsFinal) = true := pf_liftsFinal
theorem k27 : (Try.prog.make == some Rows.helloTakesRow.make) = true := pf_make
theorem closed : joinedFacts Try.prog 13 Try.f13 Rows.helloTakesSpec Rows.helloTakesRow = true := by
  unfold joinedFacts
  exact (and_mk (and_mk (and_mk (and_mk (and_mk (and_mk (and_mk (and_mk (and_mk (and_mk (and_mk (and_mk (and_mk (and_mk (and_mk (and_mk (and_mk (and_mk (and_mk (and_mk (and_mk (and_mk (and_mk (and_mk (and_mk (and_mk (and_mk (and_mk (and_mk (and_mk (and_mk k0 pf_laidOut) pf_mapsRowed) k3) k4) k5) pf_stops) k7) pf_stopKnobs) k9) k10) k11) k12) k13) k14) k15) k16) k17) k18) k19) k20) k21) k22) k23) pf_stopsHeard) pf_mayEnter) k26) k27) (k28 _)) k29) k30) k31)
theorem named : Try.prog.funcNamed Rows.helloTakesRow.func = some 13 := by kernel_rfl
theorem wrapper : Try.f13.isWrapper Try.prog Rows.helloTakesRow.wrapper Rows.helloTakesRow.mainSum := by
  unfold Func.isWrapper
  rw [if_neg (of_decide_eq_false (by kernel_rfl))]
  exact ⟨rfl, rfl⟩

theorem over : Rows.helloTakesRow.holds Try.pinned (OpenSpec.ofChange Rows.helloTakesSpec) :=
  OpenClaim.holds_of_wide 13 Try.f13 rfl rfl rfl rfl rfl rfl rfl ⟨rfl, rfl, rfl, rfl, rfl⟩ rfl rfl rfl rfl rfl named Try.func13 closed
    (of_decide_eq_true (by kernel_rfl)) wrapper
    (fun os started H enc _ => lifted os started H enc)

theorem proved : Rows.HelloTakesSaid := over
#print axioms proved
end Go.Proofs.Ythcjcgagbpfkpaa.helloTakes

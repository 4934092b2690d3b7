/- MacSteps: for every input the call returns true, and each argument reads afterwards as it read before: the row, over the walk. No condition. -/
import Derived.Test.YthcjcgagbpfkpaaRows
import Derived.Test.YthcjcgagbpfkpaaMacSteps
import Derived.Test.YthcjcgagbpfkpaaOpenStepsm
import Derived.Test.YthcjcgagbpfkpaaFacts
namespace Go.Proofs.Ythcjcgagbpfkpaa.macSteps
open Go.ChangeShapes Go.WideShapes Go.ChangeAt Go.RowKit
open Go.ChangeMaps (open_string shut_string)
set_option linter.unusedVariables false


set_option maxRecDepth 100000 in
theorem lifted (os : Os) (started : os.Started) (H : Type) (enc : TypeId × Value → H) :
    ReturnsInHanded {} Try.checked os 9 .any (Rows.macStepsSpec.pre6 enc Try.prog Try.f9 Rows.macStepsRow.domain false) (Rows.macStepsSpec.post enc Try.prog Try.f9 false true false false) := by
  refine returnsInHanded_of_change_sized (C := Try.checked) pf_own started (by kernel_rfl) Try.func9
    (ChangeSpec.witness6 (enc := enc) (C := Try.checked) false ⟨#[], #[.slice none 0 0], []⟩ 8 (by kernel_rfl) (by kernel_rfl) (by kernel_rfl) (by kernel_rfl)) ?_
  intro W base args ds gs before hval0 hW hcnd hsz0 _
  have hval : ∀ (j : Nat) t v, Try.f9.params[j]? = some t → args[j]? = some v → Value.okWide Try.prog W .any base t v := hval0
  have hsz : (DataW.weightsEach Try.prog (Try.f9.params.toList ++ Rows.macStepsSpec.plain.varTypes Try.prog) (ds ++ gs)).all (· ≤ reachBytes) = true := hsz0
  have hW' := hW
  obtain ⟨p, q, hA0, hV, rfl, hfz, hnd⟩ := hW
  have hA : DataW.TrodAll enc Try.prog W 0 (fun _ => true) true Try.f9.params.toList args.toList ds p := hA0
  rw [Try.params9] at hA hval hsz
  obtain ⟨v0, vs0, d0, ds0, p0, q0, hargs, rfl, rfl, h0, r0⟩ := trodAll_cons hA
  obtain ⟨rfl, rfl, rfl⟩ := trodAll_nil r0
  obtain rfl : args = #[v0] := by cases args; simp_all
  obtain ⟨rfl, rfl⟩ := trodVars_none hV
  have k0 := h0
  have lt0 : ∀ x ∈ p0, x.block < W.heap.size := by obtain ⟨m, hm⟩ := k0; exact DataW.trod_lt m _ _ _ hm
  obtain ⟨A0, L0, C0, Z0, rfl, e0, i0⟩ := open_stepsm (hval 0 68 v0 rfl rfl) h0
  clear hA0 hval0
  refine (macSteps_walk A0 L0 C0 Z0 e0 W i0).mono fun e W' ⟨he, hk⟩ => ?_
  subst he
  have bel := hk.below (Nat.le_refl _) (fun _ hx => by cases hx)
  exact ⟨_, rfl, _, _, _, [], _, [], hW', trodAll_mk1 (shut_bool Try.underlying4 _), (trodAll_cons_mk (Below.trod pf_laidOut (by kernel_rfl) (of_decide_eq_true (by kernel_rfl)) k0 bel lt0) trodAll_mk0), rfl, bel.frame _, fun h => by cases h⟩

theorem k0 : (Rows.macStepsRow.wf (OpenSpec.ofChange Rows.macStepsSpec)) = true := by kernel_rfl
theorem k3 : (Try.f9.params.all (Try.prog.readableRec ·)) = true := by kernel_rfl
theorem k4 : (namedTie Try.prog Rows.macStepsRow.named Rows.macStepsSpec.vars) = true := by kernel_rfl
theorem k9 : (Rows.macStepsRow.inPlace == Try.prog.inPlace 9) = true := by kernel_rfl
theorem k10 : (Rows.macStepsRow.unfollowed == Try.prog.unfollowed 9) = true := by kernel_rfl
theorem k11 : (Rows.macStepsRow.recurses == Try.prog.recurses 9) = true := by kernel_rfl
theorem k12 : (Rows.macStepsRow.named == Try.prog.varsNamed 9) = true := by kernel_rfl
theorem k13 : (Rows.macStepsRow.maps == (Try.f9.params.toList ++ Rows.macStepsSpec.plain.varTypes Try.prog).any (Try.prog.mapsRec ·)) = true := by kernel_rfl
theorem k14 : (Rows.macStepsRow.ifaces == (Try.f9.params.toList ++ Rows.macStepsSpec.plain.varTypes Try.prog).any (Try.prog.ifacesRec ·)) = true := by kernel_rfl
theorem k15 : (Rows.macStepsRow.mapsOut == Try.prog.mapsAmong Try.f9.resultTypes.toList) = true := by kernel_rfl
theorem k16 : (Rows.macStepsRow.loops == (Try.f9.params.toList ++ Rows.macStepsSpec.plain.varTypes Try.prog).any (Try.prog.loopsFrom ·)) = true := by kernel_rfl
theorem k17 : (Rows.macStepsRow.wideKeys == (Try.f9.params.toList ++ Rows.macStepsSpec.plain.varTypes Try.prog ++ Try.f9.resultTypes.toList).any (Try.prog.wideKeysFrom ·)) = true := by kernel_rfl
theorem k19 : (Try.f9.resultTypes.all (fun t => Try.prog.readableRec t && decide (t < Try.prog.types.size))) = true := by kernel_rfl
theorem k20 : (Rows.macStepsRow.ifacesOut == Try.f9.resultTypes.toList.any (Try.prog.ifacesRec ·)) = true := by kernel_rfl
theorem k21 : (Rows.macStepsRow.loopsOut == Try.f9.resultTypes.toList.any (Try.prog.loopsFrom ·)) = true := by kernel_rfl
theorem k28 (l : List (Option IntKind)) : (Rows.macStepsRow.kinds == (if Rows.macStepsRow.domain.isEmpty = true then [] else l)) = true := by rw [if_pos (by kernel_rfl)]; kernel_rfl
theorem k29 : (Rows.macStepsRow.pinned == Rows.macStepsRow.pinnedBy) = true := by kernel_rfl
theorem k30 : (Rows.macStepsRow.veiled == (Try.f9.params.toList ++ Rows.macStepsSpec.plain.varTypes Try.prog ++ Try.f9.resultTypes.toList).any (Try.prog.veiledRec ·)) = true := by kernel_rfl
theorem k31 : (Rows.macStepsRow.veiledFits Try.prog Try.f9.params.toList (Try.f9.params.toList ++ Rows.macStepsSpec.plain.varTypes Try.prog ++ Try.f9.resultTypes.toList)) = true := by kernel_rfl
theorem k5 : (Rows.macStepsRow.stops == []) = true := by kernel_rfl
theorem k7 : (Rows.macStepsRow.knobs == []) = true := by kernel_rfl
theorem k18 : (Rows.macStepsSpec.vars.all (Try.prog.varReadable ·)) = true := by kernel_rfl
theorem k23 : (Rows.macStepsRow.shortTexts.isNone) = true := by kernel_rfl
theorem k22 : (Rows.macStepsRow.plainKeys == Try.prog.plainKeys) = true := by rw [pf_plainKeys]; kernel_rfl
theorem k26 : (Rows.macStepsRow.lifted == Try.prog.liftsFinal) = true := pf_liftsFinal
theorem k27 : (Try.prog.make == some Rows.macStepsRow.make) = true := pf_make
theorem closed : joinedFacts Try.prog 9 Try.f9 Rows.macStepsSpec Rows.macStepsRow = true := by
  unfold joinedFacts
  exact (and_mk (and_mk (and_mk (and_mk (and_mk (and_mk (and_mk (and_mk (and_mk (and_mk (and_mk (and_mk (and_mk (and_mk (and_mk (and_mk (and_mk (and_mk (and_mk (and_mk (and_mk (and_mk (and_mk (and_mk (and_mk (and_mk (and_mk (and_mk (and_mk (and_mk (and_mk k0 pf_laidOut) pf_mapsRowed) k3) k4) k5) pf_stops) k7) pf_stopKnobs) k9) k10) k11) k12) k13) k14) k15) k16) k17) k18) k19) k20) k21) k22) k23) pf_stopsHeard) pf_mayEnter) k26) k27) (k28 _)) k29) k30) k31)
theorem named : Try.prog.funcNamed Rows.macStepsRow.func = some 9 := by kernel_rfl
theorem wrapper : Try.f9.isWrapper Try.prog Rows.macStepsRow.wrapper Rows.macStepsRow.mainSum := by
  unfold Func.isWrapper
  rw [if_neg (of_decide_eq_false (by kernel_rfl))]
  exact ⟨rfl, rfl⟩

theorem over : Rows.macStepsRow.holds Try.pinned (OpenSpec.ofChange Rows.macStepsSpec) :=
  OpenClaim.holds_of_wide 9 Try.f9 rfl rfl rfl rfl rfl rfl rfl ⟨rfl, rfl, rfl, rfl, rfl⟩ rfl rfl rfl rfl rfl named Try.func9 closed
    (of_decide_eq_true (by kernel_rfl)) wrapper
    (fun os started H enc _ => lifted os started H enc)

theorem proved : Rows.MacStepsSaid := over
#print axioms proved
end Go.Proofs.Ythcjcgagbpfkpaa.macSteps

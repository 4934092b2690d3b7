/- DiceOrder: for every input the call returns true, and each argument reads afterwards as it read before: the row, over the walk. No condition. -/
import Derived.Test.YthcjcgagbpfkpaaRows
import Derived.Test.YthcjcgagbpfkpaaDiceOrder
import Derived.Test.YthcjcgagbpfkpaaOpenNums
import Derived.Test.YthcjcgagbpfkpaaFacts
namespace Go.Proofs.Ythcjcgagbpfkpaa.diceOrder
open Go.ChangeShapes Go.WideShapes Go.ChangeAt Go.RowKit
open Go.ChangeMaps (open_string shut_string)
set_option linter.unusedVariables false


set_option maxRecDepth 100000 in
theorem lifted (os : Os) (started : os.Started) (H : Type) (enc : TypeId × Value → H) :
    ReturnsInHanded {} Try.checked os 6 .any (Rows.diceOrderSpec.pre6 enc Try.prog Try.f6 Rows.diceOrderRow.domain false) (Rows.diceOrderSpec.post enc Try.prog Try.f6 false true false false) := by
  refine returnsInHanded_of_change_sized (C := Try.checked) pf_own started (by kernel_rfl) Try.func6
    (ChangeSpec.witness6 (enc := enc) (C := Try.checked) false ⟨#[], #[.slice none 0 0], []⟩ 8 (by kernel_rfl) (by kernel_rfl) (by kernel_rfl) (by kernel_rfl)) ?_
  intro W base args ds gs before hval0 hW hcnd hsz0 _
  have hval : ∀ (j : Nat) t v, Try.f6.params[j]? = some t → args[j]? = some v → Value.okWide Try.prog W .any base t v := hval0
  have hsz : (DataW.weightsEach Try.prog (Try.f6.params.toList ++ Rows.diceOrderSpec.plain.varTypes Try.prog) (ds ++ gs)).all (· ≤ reachBytes) = true := hsz0
  have hW' := hW
  obtain ⟨p, q, hA0, hV, rfl, hfz, hnd⟩ := hW
  have hA : DataW.TrodAll enc Try.prog W 0 (fun _ => true) true Try.f6.params.toList args.toList ds p := hA0
  rw [Try.params6] at hA hval hsz
  obtain ⟨v0, vs0, d0, ds0, p0, q0, hargs, rfl, rfl, h0, r0⟩ := trodAll_cons hA
  obtain ⟨rfl, rfl, rfl⟩ := trodAll_nil r0
  obtain rfl : args = #[v0] := by cases args; simp_all
  obtain ⟨rfl, rfl⟩ := trodVars_none hV
  have k0 := h0
  have lt0 : ∀ x ∈ p0, x.block < W.heap.size := by obtain ⟨m, hm⟩ := k0; exact DataW.trod_lt m _ _ _ hm
  obtain ⟨A0, L0, C0, Z0, rfl, e0, i0⟩ := open_nums Try.underlying42 Try.underlying22 (by kernel_rfl) (hval 0 42 v0 rfl rfl) h0
  clear hA0 hval0
  refine (diceOrder_walk A0 L0 C0 Z0 e0 W i0).mono fun e W' ⟨he, hk⟩ => ?_
  subst he
  have bel := hk.below (Nat.le_refl _) (fun _ hx => by cases hx)
  exact ⟨_, rfl, _, _, _, [], _, [], hW', trodAll_mk1 (shut_bool Try.underlying4 _), (trodAll_cons_mk (Below.trod pf_laidOut (by kernel_rfl) (of_decide_eq_true (by kernel_rfl)) k0 bel lt0) trodAll_mk0), rfl, bel.frame _, fun h => by cases h⟩

theorem k0 : (Rows.diceOrderRow.wf (OpenSpec.ofChange Rows.diceOrderSpec)) = true := by kernel_rfl
theorem k3 : (Try.f6.params.all (Try.prog.readableRec ·)) = true := by kernel_rfl
theorem k4 : (namedTie Try.prog Rows.diceOrderRow.named Rows.diceOrderSpec.vars) = true := by kernel_rfl
theorem k9 : (Rows.diceOrderRow.inPlace == Try.prog.inPlace 6) = true := by kernel_rfl
theorem k10 : (Rows.diceOrderRow.unfollowed == Try.prog.unfollowed 6) = true := by kernel_rfl
theorem k11 : (Rows.diceOrderRow.recurses == Try.prog.recurses 6) = true := by kernel_rfl
theorem k12 : (Rows.diceOrderRow.named == Try.prog.varsNamed 6) = true := by kernel_rfl
theorem k13 : (Rows.diceOrderRow.maps == (Try.f6.params.toList ++ Rows.diceOrderSpec.plain.varTypes Try.prog).any (Try.prog.mapsRec ·)) = true := by kernel_rfl
theorem k14 : (Rows.diceOrderRow.ifaces == (Try.f6.params.toList ++ Rows.diceOrderSpec.plain.varTypes Try.prog).any (Try.prog.ifacesRec ·)) = true := by kernel_rfl
theorem k15 : (Rows.diceOrderRow.mapsOut == Try.prog.mapsAmong Try.f6.resultTypes.toList) = true := by kernel_rfl
theorem k16 : (Rows.diceOrderRow.loops == (Try.f6.params.toList ++ Rows.diceOrderSpec.plain.varTypes Try.prog).any (Try.prog.loopsFrom ·)) = true := by kernel_rfl
theorem k17 : (Rows.diceOrderRow.wideKeys == (Try.f6.params.toList ++ Rows.diceOrderSpec.plain.varTypes Try.prog ++ Try.f6.resultTypes.toList).any (Try.prog.wideKeysFrom ·)) = true := by kernel_rfl
theorem k19 : (Try.f6.resultTypes.all (fun t => Try.prog.readableRec t && decide (t < Try.prog.types.size))) = true := by kernel_rfl
theorem k20 : (Rows.diceOrderRow.ifacesOut == Try.f6.resultTypes.toList.any (Try.prog.ifacesRec ·)) = true := by kernel_rfl
theorem k21 : (Rows.diceOrderRow.loopsOut == Try.f6.resultTypes.toList.any (Try.prog.loopsFrom ·)) = true := by kernel_rfl
theorem k28 (l : List (Option IntKind)) : (Rows.diceOrderRow.kinds == (if Rows.diceOrderRow.domain.isEmpty = true then [] else l)) = true := by rw [if_pos (by kernel_rfl)]; kernel_rfl
theorem k29 : (Rows.diceOrderRow.pinned == Rows.diceOrderRow.pinnedBy) = true := by kernel_rfl
theorem k30 : (Rows.diceOrderRow.veiled == (Try.f6.params.toList ++ Rows.diceOrderSpec.plain.varTypes Try.prog ++ Try.f6.resultTypes.toList).any (Try.prog.veiledRec ·)) = true := by kernel_rfl
theorem k31 : (Rows.diceOrderRow.veiledFits Try.prog Try.f6.params.toList (Try.f6.params.toList ++ Rows.diceOrderSpec.plain.varTypes Try.prog ++ Try.f6.resultTypes.toList)) = true := by kernel_rfl
theorem k5 : (Rows.diceOrderRow.stops == []) = true := by kernel_rfl
theorem k7 : (Rows.diceOrderRow.knobs == []) = true := by kernel_rfl
theorem k18 : (Rows.diceOrderSpec.vars.all (Try.prog.varReadable ·)) = true := by kernel_rfl
theorem k23 : (Rows.diceOrderRow.shortTexts.isNone) = true := by kernel_rfl
theorem k22 : (Rows.diceOrderRow.plainKeys == Try.prog.plainKeys) = true := by rw [pf_plainKeys]; kernel_rfl
theorem k26 : (Rows.diceOrderRow.lifted == Try.prog.liftsFinal) = true := pf_liftsFinal
theorem k27 : (Try.prog.make == some Rows.diceOrderRow.make) = true := pf_make
theorem closed : joinedFacts Try.prog 6 Try.f6 Rows.diceOrderSpec Rows.diceOrderRow = true := by
  unfold joinedFacts
  exact (and_mk (and_mk (and_mk (and_mk (and_mk (and_mk (and_mk (and_mk (and_mk (and_mk (and_mk (and_mk (and_mk (and_mk (and_mk (and_mk (and_mk (and_mk (and_mk (and_mk (and_mk (and_mk (and_mk (and_mk (and_mk (and_mk (and_mk (and_mk (and_mk (and_mk (and_mk k0 pf_laidOut) pf_mapsRowed) k3) k4) k5) pf_stops) k7) pf_stopKnobs) k9) k10) k11) k12) k13) k14) k15) k16) k17) k18) k19) k20) k21) k22) k23) pf_stopsHeard) pf_mayEnter) k26) k27) (k28 _)) k29) k30) k31)
theorem named : Try.prog.funcNamed Rows.diceOrderRow.func = some 6 := by kernel_rfl
theorem wrapper : Try.f6.isWrapper Try.prog Rows.diceOrderRow.wrapper Rows.diceOrderRow.mainSum := by
  unfold Func.isWrapper
  rw [if_neg (of_decide_eq_false (by kernel_rfl))]
  exact ⟨rfl, rfl⟩

theorem over : Rows.diceOrderRow.holds Try.pinned (OpenSpec.ofChange Rows.diceOrderSpec) :=
  OpenClaim.holds_of_wide 6 Try.f6 rfl rfl rfl rfl rfl rfl rfl ⟨rfl, rfl, rfl, rfl, rfl⟩ rfl rfl rfl rfl rfl named Try.func6 closed
    (of_decide_eq_true (by kernel_rfl)) wrapper
    (fun os started H enc _ => lifted os started H enc)

theorem proved : Rows.DiceOrderSaid := over
#print axioms proved
end Go.Proofs.Ythcjcgagbpfkpaa.diceOrder

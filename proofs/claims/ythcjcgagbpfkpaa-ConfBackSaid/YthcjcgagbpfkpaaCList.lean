/- conf.List. -/
import Derived.Test.YthcjcgagbpfkpaaCheck
import Derived.Maps.AppendAt
import Derived.OwnWalk
namespace Go.Proofs.Ythcjcgagbpfkpaa
set_option linter.unusedVariables false
set_option linter.unusedSimpArgs false
open Go.RowKit Go.Shelf
attribute [local go_sem] Oper.semAt_some

theorem info3c : (Try.prog.info? 3).map (fun i => (i.zero, i.size, i.bytes)) = some (some (.int .i64 0), 1, 8) := by kernel_rfl
/-- The numbers that have come. -/
def numsOf (c : Nat → Int) (l : List (Fin 9)) : List Value := l.map fun i => .int .i64 (c i.val)
theorem numsOf_snoc (c : Nat → Int) (l : List (Fin 9)) (x : Fin 9) : numsOf c (l ++ [x]) = numsOf c l ++ [.int .i64 (c x.val)] := by simp [numsOf]
theorem numsOf_all (c : Nat → Int) (i : Nat) (hi : i < 9) : (numsOf c (List.finRange 9))[i]? = some (.int .i64 (c i)) := by
  simp [numsOf, hi]

set_option maxRecDepth 100000 in
set_option maxHeartbeats 8000000 in
theorem list_calls (c : Nat → Int) (w : World) :
    Calls Try.prog 61 #[.agg (confCells c)] w fun e w' => ∃ g cap, e = .returned (.slice (some ⟨g, 0, none⟩) 9 cap) ∧ w.heap.size ≤ g ∧ (∀ i, i < 9 → w'.cell? ⟨g, i, none⟩ = some (.int .i64 (c i))) ∧ Keeps [] w w' := by
  obtain ⟨i0, hi, hz0, hz1, hz2⟩ := info_parts info3c
  refine (callsIn_wide (n := 5)).1 ?_
  refine callsIn_of_wp_marks Try.func61 rfl trivial ?_ rfl
  simp only [Try.ntmps61, List.size_toArray, List.length_cons, List.length_nil, Nat.reduceAdd, Nat.reduceSub, Array.replicate_succ, Array.replicate_zero, List.push_toArray, List.append_toArray, List.nil_append, List.cons_append]
  gi_wp2_with (refine ⟨trivial, ?_⟩; gi_at_call 102; refine (callsIn_wide.2 (places_calls _ _)).mono ?_; rintro e w' ⟨g, rfl, hg1, hg2, hk⟩)
  obtain ⟨w0, hw0⟩ : ∃ w0, w0 = w.alloc (.cells (confCells c) 62) := ⟨_, rfl⟩
  have hs0 : w0.heap.size = w.heap.size + 1 := by rw [hw0]; simp
  have hb00 : Below w.heap.size w w0 := by rw [hw0]; exact (Below.refl _ w).alloc (Nat.le_refl _) _
  have hW0 : Whole w0 w.heap.size 62 (confCells c) := by rw [hw0]; exact Whole.new _ _ _
  rw [← hw0] at hk hg1
  clear hw0
  have hsz : w.heap.size + 2 ≤ w'.heap.size := by have := hk.size; simp at this; omega
  have hR : Boxed w' (w.heap.size + 1) 88 (.slice none 0 0) := by
    have := hk.whole (Whole.new w0 88 #[.slice none 0 0]) (by simp)
    rw [hs0] at this
    exact this
  have hB0 : Below (w.heap.size + 1) w0 w' := (((Below.refl _ w0).alloc (by omega) _).trans (hk.below (by simp; omega) (by simp)))
  clear hk
  refine wpIn_rangeFunc_ownH rfl (by omega) (gf := 112) (lb := #[.pointer (some ⟨g, 0, none⟩)]) rfl trivial (enters_of Try.func112 (by kernel_rfl) rfl)
    (iter_stops Fence.wide (5 - 1) trivial rfl (by omega) g w.heap.size w' hg2) (fun _ _ => trivial) (fun _ _ _ _ _ _ _ _ => trivial) (Below.refl _ _) (fun _ => rfl)
    (fun pre W => (∃ v, Boxed W (w.heap.size + 1) 88 v ∧ W.ownsRow (w.heap.size + 1) 3 1 v pre.length (numsOf c pre) ∧ True) ∧ Below (w.heap.size + 1) w0 W)
    (fun _ _ _ => False)
    (OwnFrom.and (Own.from (holdsRow_own (w.heap.size + 1) (w.heap.size + 1) 88 3 1 (fun pre : List (Fin 9) => pre.length) (fun pre => numsOf c pre) (fun _ _ => True)) _) (ownFrom_below (by omega) (by omega)))
    (fun _ _ _ _ _ hs _ _ => hs)
    ⟨⟨_, hR, World.ownsRow_nil _ _ _ _, trivial⟩, hB0⟩
    (fun x a' W => ∃ Bx, w.heap.size + 1 < Bx ∧ Whole W Bx 165 #[.pointer (some ⟨w.heap.size, x.val, none⟩), .int .i64 (leastOf x.val), .int .i64 (mostOf x.val)] ∧
      a' = { tmps := #[.agg (confCells c), .pointer (some ⟨w.heap.size, 0, none⟩), .slice none 0 0, .pointer (some ⟨w.heap.size + 1, 0, none⟩), undef, .pointer (some ⟨Bx, 0, none⟩),
        .func (.func 112) #[] #[.pointer (some ⟨g, 0, none⟩)], .int .i64 (x.val : Nat), .agg #[.pointer (some ⟨w.heap.size, x.val, none⟩), .int .i64 (leastOf x.val), .int .i64 (mostOf x.val)],
        undef, undef, undef, undef, undef, undef, undef, undef], defers := [] })
    (fun x a' _ X Y row hs hg hr => by obtain ⟨Bx, h1, h2, h3⟩ := hs; exact ⟨Bx, h1, whole_own Bx 165 (fun (_ : Unit) => _) () X Y row h2 hg (fun r e => (hr r e).2), h3⟩)
    ?assign ?body ?done ?stop
  case assign =>
    rintro l pre x W K ⟨⟨v, hv, hrow, _⟩, hB⟩ hK
    simp only [encP]
    gi_wp2
    exact hK _ _ ((KeepsOthers.alloc _ _).from _) trivial ⟨⟨v, hv.alloc _, hrow.alloc _, trivial⟩, hB.alloc (by have := hB.size; omega) _⟩ ⟨W.heap.size, hv.lt, Whole.new W 165 _, rfl⟩
  case body =>
    rintro l pre x a' W hl ⟨r, hr⟩ ⟨⟨v, hv, hrow, _⟩, hB⟩ ⟨Bx, hBx, bX, rfl⟩ hlt
    have hsW : w.heap.size + 1 ≤ W.drew.heap.size := by have := hB.size; show _ ≤ W.heap.size; omega
    have HS := Aside.mk hsW
    have d0 : W.drew.cell? ⟨Bx, 0, none⟩ = some (.pointer (some ⟨w.heap.size, x.val, none⟩)) := bX.cell 0
    have d3 : W.drew.cell? ⟨w.heap.size, x.val, none⟩ = some (.int .i64 (c x.val)) := by
      show W.cell? _ = _
      rw [hB.cell (p := ⟨w.heap.size, x.val, none⟩) (by show w.heap.size < w.heap.size + 1; omega), hW0.cell]
      exact confCells_at c x
    have d5 : W.drew.cell? ⟨w.heap.size + 1, 0, none⟩ = some v := hv.cell
    have HV : Aside (Boxed W.drew (w.heap.size + 1) 88 v) := ⟨hv⟩
    have HR : Aside (W.drew.ownsRow (w.heap.size + 1) 3 1 v pre.length (numsOf c pre)) := ⟨hrow⟩
    have HB : Aside (Below (w.heap.size + 1) w0 W.drew) := ⟨hB.trans (below_drew _ W)⟩
    have HK : Aside (KeepsOthers W W.drew) := ⟨KeepsOthers.drew W⟩
    have HL : Aside (pre.length < 9) := ⟨hlt⟩
    have HSN := Aside.mk (numsOf_snoc c pre x)
    clear hr r hl hv hrow hB hlt hg1 hg2 hsz hR hB0 bX hBx hsW hW0 hb00 hs0
    gi_wp2
    refine wpIn_region_anyG (by kernel_rfl) (by kernel_rfl) (by rintro ⟨a, w, h⟩; exact h) ?_
    generalize W.drew = W2 at *
    generalize c x.val = u at *
    simp only [List.size_toArray, List.length_cons, List.length_nil, Nat.reduceAdd, Array.replicate_succ, Array.replicate_zero, List.push_toArray, List.nil_append, List.cons_append]
    refine AnyG.fork (i := 0) (j := 1) (by kernel_rfl) rfl rfl rfl rfl (fun K hK => ?_) (fun K hK => ?_)
    · go_simp
      refine hK.out _ _ ?_
      clear hK K
      refine AnyG.tail 1 (by kernel_rfl) rfl ?_
      simp only [List.drop_succ_cons, List.drop_zero]
      as_aux_lemma =>
        go_wp2_with (at_builtin; refine wpList_append_own _ rfl _ _ 88 rfl (w.heap.size + 1) 3 i0 (.int .i64 0) 1 8 Try.underlying88 hi hz0 hz1 hz2 rfl (by decide) _ _ _ rfl (HR.out.alloc _) ⟨W2.heap.size, 0, none⟩ 1 1 [.int .i64 u] rfl rfl (cell_one_new _ _ _) (by simp [Value.oneCell']) (by have := HL.out; unfold maxLen; omega) (by have := HL.out; omega) (by have := HS.out; simp; omega) ?_; intro v' w1 hown' hgrow _; obtain ⟨g', cap', rfl⟩ := ownsRow_succ hown'; obtain ⟨hv1, hv2, hr2, hk2, hb2⟩ := HV.out.appended (by decide) HR.out HS.out (Nat.le_refl _) hown' hgrow; have hc1 := hv1.cell; have hf1 := hv1.frozen; have HV2 := Aside.mk hv2; have HR2 := Aside.mk hr2; have HK2 := Aside.mk hk2; have HB2 := Aside.mk hb2; clear hv1 hv2 hr2 hk2 hb2 hown' hgrow)
        exact ⟨(HK.out.trans HK2.out).from _, trivial, ⟨_, HV2.out, by rw [HSN.out]; simpa using HR2.out, trivial⟩, HB.out.trans HB2.out⟩
    go_simp
    refine hK.out _ _ ?_
    clear hK K
    refine AnyG.fork (i := 0) (j := 2) (by kernel_rfl) rfl rfl rfl rfl (fun K hK => ?_) (fun K hK => ?_)
    · go_simp
      refine hK.out _ _ ?_
      clear hK K
      refine AnyG.tail 2 (by kernel_rfl) rfl ?_
      simp only [List.drop_succ_cons, List.drop_zero]
      as_aux_lemma =>
        go_wp2_with (at_builtin; refine wpList_append_own _ rfl _ _ 88 rfl (w.heap.size + 1) 3 i0 (.int .i64 0) 1 8 Try.underlying88 hi hz0 hz1 hz2 rfl (by decide) _ _ _ rfl (HR.out.alloc _) ⟨W2.heap.size, 0, none⟩ 1 1 [.int .i64 u] rfl rfl (cell_one_new _ _ _) (by simp [Value.oneCell']) (by have := HL.out; unfold maxLen; omega) (by have := HL.out; omega) (by have := HS.out; simp; omega) ?_; intro v' w1 hown' hgrow _; obtain ⟨g', cap', rfl⟩ := ownsRow_succ hown'; obtain ⟨hv1, hv2, hr2, hk2, hb2⟩ := HV.out.appended (by decide) HR.out HS.out (Nat.le_refl _) hown' hgrow; have hc1 := hv1.cell; have hf1 := hv1.frozen; have HV2 := Aside.mk hv2; have HR2 := Aside.mk hr2; have HK2 := Aside.mk hk2; have HB2 := Aside.mk hb2; clear hv1 hv2 hr2 hk2 hb2 hown' hgrow)
        exact ⟨(HK.out.trans HK2.out).from _, trivial, ⟨_, HV2.out, by rw [HSN.out]; simpa using HR2.out, trivial⟩, HB.out.trans HB2.out⟩
    go_simp
    refine hK.out _ _ ?_
    clear hK K
    refine AnyG.fork (i := 0) (j := 3) (by kernel_rfl) rfl rfl rfl rfl (fun K hK => ?_) (fun K hK => ?_)
    · go_simp
      refine hK.out _ _ ?_
      clear hK K
      refine AnyG.tail 3 (by kernel_rfl) rfl ?_
      simp only [List.drop_succ_cons, List.drop_zero]
      as_aux_lemma =>
        go_wp2_with (at_builtin; refine wpList_append_own _ rfl _ _ 88 rfl (w.heap.size + 1) 3 i0 (.int .i64 0) 1 8 Try.underlying88 hi hz0 hz1 hz2 rfl (by decide) _ _ _ rfl (HR.out.alloc _) ⟨W2.heap.size, 0, none⟩ 1 1 [.int .i64 u] rfl rfl (cell_one_new _ _ _) (by simp [Value.oneCell']) (by have := HL.out; unfold maxLen; omega) (by have := HL.out; omega) (by have := HS.out; simp; omega) ?_; intro v' w1 hown' hgrow _; obtain ⟨g', cap', rfl⟩ := ownsRow_succ hown'; obtain ⟨hv1, hv2, hr2, hk2, hb2⟩ := HV.out.appended (by decide) HR.out HS.out (Nat.le_refl _) hown' hgrow; have hc1 := hv1.cell; have hf1 := hv1.frozen; have HV2 := Aside.mk hv2; have HR2 := Aside.mk hr2; have HK2 := Aside.mk hk2; have HB2 := Aside.mk hb2; clear hv1 hv2 hr2 hk2 hb2 hown' hgrow)
        exact ⟨(HK.out.trans HK2.out).from _, trivial, ⟨_, HV2.out, by rw [HSN.out]; simpa using HR2.out, trivial⟩, HB.out.trans HB2.out⟩
    go_simp
    refine hK.out _ _ ?_
    clear hK K
    refine AnyG.fork (i := 0) (j := 4) (by kernel_rfl) rfl rfl rfl rfl (fun K hK => ?_) (fun K hK => ?_)
    · go_simp
      refine hK.out _ _ ?_
      clear hK K
      refine AnyG.tail 4 (by kernel_rfl) rfl ?_
      simp only [List.drop_succ_cons, List.drop_zero]
      as_aux_lemma =>
        go_wp2_with (at_builtin; refine wpList_append_own _ rfl _ _ 88 rfl (w.heap.size + 1) 3 i0 (.int .i64 0) 1 8 Try.underlying88 hi hz0 hz1 hz2 rfl (by decide) _ _ _ rfl (HR.out.alloc _) ⟨W2.heap.size, 0, none⟩ 1 1 [.int .i64 u] rfl rfl (cell_one_new _ _ _) (by simp [Value.oneCell']) (by have := HL.out; unfold maxLen; omega) (by have := HL.out; omega) (by have := HS.out; simp; omega) ?_; intro v' w1 hown' hgrow _; obtain ⟨g', cap', rfl⟩ := ownsRow_succ hown'; obtain ⟨hv1, hv2, hr2, hk2, hb2⟩ := HV.out.appended (by decide) HR.out HS.out (Nat.le_refl _) hown' hgrow; have hc1 := hv1.cell; have hf1 := hv1.frozen; have HV2 := Aside.mk hv2; have HR2 := Aside.mk hr2; have HK2 := Aside.mk hk2; have HB2 := Aside.mk hb2; clear hv1 hv2 hr2 hk2 hb2 hown' hgrow)
        exact ⟨(HK.out.trans HK2.out).from _, trivial, ⟨_, HV2.out, by rw [HSN.out]; simpa using HR2.out, trivial⟩, HB.out.trans HB2.out⟩
    go_simp
    refine hK.out _ _ ?_
    clear hK K
    refine AnyG.fork (i := 0) (j := 5) (by kernel_rfl) rfl rfl rfl rfl (fun K hK => ?_) (fun K hK => ?_)
    · go_simp
      refine hK.out _ _ ?_
      clear hK K
      refine AnyG.tail 5 (by kernel_rfl) rfl ?_
      simp only [List.drop_succ_cons, List.drop_zero]
      as_aux_lemma =>
        go_wp2_with (at_builtin; refine wpList_append_own _ rfl _ _ 88 rfl (w.heap.size + 1) 3 i0 (.int .i64 0) 1 8 Try.underlying88 hi hz0 hz1 hz2 rfl (by decide) _ _ _ rfl (HR.out.alloc _) ⟨W2.heap.size, 0, none⟩ 1 1 [.int .i64 u] rfl rfl (cell_one_new _ _ _) (by simp [Value.oneCell']) (by have := HL.out; unfold maxLen; omega) (by have := HL.out; omega) (by have := HS.out; simp; omega) ?_; intro v' w1 hown' hgrow _; obtain ⟨g', cap', rfl⟩ := ownsRow_succ hown'; obtain ⟨hv1, hv2, hr2, hk2, hb2⟩ := HV.out.appended (by decide) HR.out HS.out (Nat.le_refl _) hown' hgrow; have hc1 := hv1.cell; have hf1 := hv1.frozen; have HV2 := Aside.mk hv2; have HR2 := Aside.mk hr2; have HK2 := Aside.mk hk2; have HB2 := Aside.mk hb2; clear hv1 hv2 hr2 hk2 hb2 hown' hgrow)
        exact ⟨(HK.out.trans HK2.out).from _, trivial, ⟨_, HV2.out, by rw [HSN.out]; simpa using HR2.out, trivial⟩, HB.out.trans HB2.out⟩
    go_simp
    refine hK.out _ _ ?_
    clear hK K
    have d6 : (W2.alloc (.cells #[.int .i64 u] 3)).cell? ⟨w.heap.size + 1, 0, none⟩ = some v := (HV.out.alloc _).cell
    refine AnyG.one (i := 0) (by kernel_rfl) rfl rfl (fun K hK => ?_)
    go_simp
    refine hK.out _ _ ?_
    clear hK K
    refine AnyG.tail 6 (by kernel_rfl) rfl ?_
    simp only [List.drop_succ_cons, List.drop_zero]
    as_aux_lemma =>
      go_wp2_with (at_builtin; refine wpList_append_own _ rfl _ _ 88 rfl (w.heap.size + 1) 3 i0 (.int .i64 0) 1 8 Try.underlying88 hi hz0 hz1 hz2 rfl (by decide) _ _ _ rfl (HR.out.alloc _) ⟨W2.heap.size, 0, none⟩ 1 1 [.int .i64 u] rfl rfl (cell_one_new _ _ _) (by simp [Value.oneCell']) (by have := HL.out; unfold maxLen; omega) (by have := HL.out; omega) (by have := HS.out; simp; omega) ?_; intro v' w1 hown' hgrow _; obtain ⟨g', cap', rfl⟩ := ownsRow_succ hown'; obtain ⟨hv1, hv2, hr2, hk2, hb2⟩ := HV.out.appended (by decide) HR.out HS.out (Nat.le_refl _) hown' hgrow; have hc1 := hv1.cell; have hf1 := hv1.frozen; have HV2 := Aside.mk hv2; have HR2 := Aside.mk hr2; have HK2 := Aside.mk hk2; have HB2 := Aside.mk hb2; clear hv1 hv2 hr2 hk2 hb2 hown' hgrow)
      exact ⟨(HK.out.trans HK2.out).from _, trivial, ⟨_, HV2.out, by rw [HSN.out]; simpa using HR2.out, trivial⟩, HB.out.trans HB2.out⟩
  case done =>
    rintro D ys W hD rfl ⟨⟨v, hv, hrow, _⟩, hB⟩ hK
    have h9 : (List.finRange 9).length = 8 + 1 := by simp
    rw [h9] at hrow
    obtain ⟨g', cap', rfl⟩ := ownsRow_succ hrow
    have hc := hv.cell
    have HRW := Aside.mk (ownsRow_putObj hrow (.deferred none) hK rfl)
    have HGE : Aside (w.heap.size ≤ g') := ⟨by
      rcases hrow.2 with ⟨h, _⟩ | ⟨g2, cap2, cur2, h, hb, _⟩
      · cases h
      · cases h; omega⟩
    have HB := Aside.mk hB
    have HD : Aside (w.heap.size ≤ D) := ⟨by omega⟩
    have HKD := Aside.mk hK
    have HW := Aside.mk hb00
    have HW0S := Aside.mk hs0
    clear hrow hB hD hv h9 hK hb00 hs0 hW0 hB0 hR hsz hg1 hg2
    gi_wp2
    refine ⟨by simp, .inl ⟨_, _, rfl, run_takeDeferred HKD.out, ?_⟩⟩
    refine ⟨_, results_tmp rfl _ _ _, g', cap', rfl, HGE.out, fun i hi' => ?_, Keeps.of_below (HW.out.trans ((HB.out.mono (by omega)).trans (belowK_b (w := w) (Nat.le_refl _) W D _ _ HD.out HKD.out rfl rfl)))⟩
    have := HRW.out.cellAt i (by omega)
    rw [numsOf_all c i hi'] at this
    exact this
  case stop =>
    rintro D cd pre W _ _ h _
    exact h.elim
end Go.Proofs.Ythcjcgagbpfkpaa

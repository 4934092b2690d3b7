/- conf.Of. -/
import Derived.Test.YthcjcgagbpfkpaaCheck
namespace Go.Proofs.Ythcjcgagbpfkpaa
set_option linter.unusedVariables false
set_option linter.unusedSimpArgs false
open Go.RowKit Go.Shelf
attribute [local go_sem] Oper.semAt_some

/-- The configuration of numbers. -/
def ofRes (c : Nat → Int) : Nat → Int := if confOk c then c else fun _ => 0
/-- What has been stored. -/
def part (c : Nat → Int) (pre : List (Fin 9)) : Nat → Int := fun k => if pre.any (fun i => i.val == k) then c k else 0
theorem confCells_set (f : Nat → Int) (x : Fin 9) (v : Int) : (confCells f).setIfInBounds x.val (.int .i64 v) = confCells (fun j => if j = x.val then v else f j) := by
  obtain ⟨k, hk⟩ := x
  obtain rfl | rfl | rfl | rfl | rfl | rfl | rfl | rfl | rfl : k = 0 ∨ k = 1 ∨ k = 2 ∨ k = 3 ∨ k = 4 ∨ k = 5 ∨ k = 6 ∨ k = 7 ∨ k = 8 := by omega
  all_goals rfl
theorem part_snoc (c : Nat → Int) (pre : List (Fin 9)) (x : Fin 9) : (confCells (part c pre)).setIfInBounds x.val (.int .i64 (c x.val)) = confCells (part c (pre ++ [x])) := by
  rw [confCells_set]
  congr 1
  funext j
  unfold part
  rw [List.any_append]
  by_cases h : j = x.val
  · subst h
    simp
  · have : (x.val == j) = false := by simpa using fun e => h e.symm
    simp [this, h]
theorem part_nil (c : Nat → Int) : confCells (part c []) = #[.int .i64 0, .int .i64 0, .int .i64 0, .int .i64 0, .int .i64 0, .int .i64 0, .int .i64 0, .int .i64 0, .int .i64 0] := rfl
theorem part_all (c : Nat → Int) : confCells (part c (List.finRange 9)) = confCells c := rfl

theorem add_block' (x : Addr) (i : Nat) : (x.add i).block = x.block := by
  unfold Addr.add
  split <;> rfl

set_option maxRecDepth 100000 in
set_option maxHeartbeats 4000000 in
theorem of_len (a : Option Addr) (len cap : Nat) (hlen : len ≠ 9) (w : World) :
    Calls Try.prog 60 #[.slice a len cap] w fun e w' => e = .returned (.tuple #[.agg (confCells fun _ => 0), .int .i64 1]) ∧ Keeps [] w w' := by
  have h9 : ((len : Int) == 9) = false := by rw [beq_eq_false_iff_ne]; omega
  have h9' : ((len : Int) != 9) = true := by rw [bne_iff_ne]; omega
  clear hlen
  go_enter Try.func60, Try.ntmps60
  go_wp2_with fail
  refine bodyPost_ret (v := .tuple #[.agg (confCells fun _ => 0), .int .i64 1]) (by simp [results, Try.f60, go_sem]) rfl ⟨rfl, ?_⟩
  exact ((Keeps.refl [] w).alloc _).alloc _

set_option maxRecDepth 100000 in
set_option maxHeartbeats 8000000 in
theorem of_nine_at (x0 : Addr) (cap : Nat) (c f : Nat → Int) (res : Int) (hres : (0 = res ∧ c = f) ∨ (1 = res ∧ (fun _ => 0) = f)) (hck : ∀ w, Calls Try.prog 62 #[.agg (confCells c)] w fun e w' => e = .returned (.int .i64 res) ∧ Keeps [] w w')
    (w : World) (hx0 : x0.block < w.heap.size) (hcs : ∀ i, i < 9 → w.cell? (x0.add i) = some (.int .i64 (c i))) :
    Calls Try.prog 60 #[.slice (some x0) 9 cap] w fun e w' => e = .returned (.tuple #[.agg (confCells f), .int .i64 res]) ∧ Keeps [] w w' := by
  have CK := Aside.mk hck
  have HRES := Aside.mk hres
  clear hck hres
  refine (callsIn_wide (n := 5)).1 ?_
  refine callsIn_of_wp_marks Try.func60 rfl trivial ?_ rfl
  simp only [Try.ntmps60, List.size_toArray, List.length_cons, List.length_nil, Nat.reduceAdd, Nat.reduceSub, Array.replicate_succ, Array.replicate_zero, List.push_toArray, List.append_toArray, List.nil_append, List.cons_append]
  have HC := Aside.mk hcs
  clear hcs
  gi_wp2_with (refine ⟨trivial, ?_⟩; gi_at_call 102; refine (callsIn_wide.2 (places_calls _ _)).mono ?_; rintro e w' ⟨g, rfl, hg1, hg2, hk⟩)
  obtain ⟨S, hS⟩ : ∃ S, S = w.heap.size := ⟨_, rfl⟩
  have hsz : S + 3 ≤ w'.heap.size := by have := hk.size; simp at this; omega
  have hR0 : Boxed w' S 88 (.slice (some x0) 9 cap) := by
    have := hk.whole (((Whole.new w 88 #[.slice (some x0) 9 cap]).alloc _).alloc _) (by simp)
    rw [← hS] at this
    exact this
  have hR1 : Whole w' (S + 1) 62 (confCells fun _ => 0) := by
    have := hk.whole ((Whole.new (w.alloc (.cells #[.slice (some x0) 9 cap] 88)) 62 (confCells fun _ => 0)).alloc _) (by simp)
    rw [World.size_alloc, ← hS] at this
    exact this
  have hR2 : Whole w' (S + 2) 62 (confCells (part c [])) := by
    have := hk.whole (Whole.new ((w.alloc (.cells #[.slice (some x0) 9 cap] 88)).alloc (.cells (confCells fun _ => 0) 62)) 62 (confCells fun _ => 0)) (by simp)
    rw [World.size_alloc, World.size_alloc, ← hS] at this
    exact this
  have hB0 : Below S w w' := ((((Below.refl _ w).alloc (by omega) _).alloc (by simp; omega) _).alloc (by simp; omega) _).trans (hk.below (by simp; omega) (by simp))
  rw [← hS] at hg2 hx0 ⊢
  have HS := Aside.mk hS
  clear hk hg1 hS
  refine wpIn_rangeFunc_ownH rfl (by omega) (gf := 112) (lb := #[.pointer (some ⟨g, 0, none⟩)]) rfl trivial (enters_of Try.func112 (by kernel_rfl) rfl)
    (iter_stops Fence.wide (5 - 1) trivial rfl (by omega) g (S + 1 + 1) w' hg2) (fun _ _ => trivial) (fun _ _ _ _ _ _ _ _ => trivial) (Below.refl _ _) (fun _ => rfl)
    (fun pre W => ((Boxed W S 88 (.slice (some x0) 9 cap) ∧ Whole W (S + 1) 62 (confCells fun _ => 0)) ∧ Whole W (S + 2) 62 (confCells (part c pre))) ∧ Below S w W)
    (fun _ _ _ => False)
    (OwnFrom.and (OwnFrom.and (OwnFrom.and (Own.from (boxed_own _ _ _) _) (Own.from (whole_own _ _ _) _)) (Own.from (whole_own _ _ (fun pre => confCells (part c pre))) _)) (ownFrom_below (by rw [HS.out]; exact Nat.le_refl _) (by omega)))
    (fun _ _ _ _ _ hs _ _ => hs)
    ⟨⟨⟨hR0, hR1⟩, hR2⟩, hB0⟩
    (fun x a' W => ∃ Bx, S + 2 < Bx ∧ Whole W Bx 165 #[.pointer (some ⟨S + 1 + 1, x.val, none⟩), .int .i64 (leastOf x.val), .int .i64 (mostOf x.val)] ∧
      a' = { tmps := #[.slice (some x0) 9 cap, .pointer (some ⟨S, 0, none⟩), .pointer (some ⟨S + 1, 0, none⟩), .int .i64 0, .pointer (some ⟨S + 1 + 1, 0, none⟩), .int .i64 (x.val : Nat), .pointer (some ⟨Bx, 0, none⟩),
        .slice (some x0) 9 cap, .int .i64 9, .bool false, undef, .func (.func 112) #[] #[.pointer (some ⟨g, 0, none⟩)], .int .i64 (x.val : Nat),
        .agg #[.pointer (some ⟨S + 1 + 1, x.val, none⟩), .int .i64 (leastOf x.val), .int .i64 (mostOf x.val)], undef, undef, undef, undef, undef, undef, undef, undef, undef, undef, undef, undef], defers := [] })
    (fun x a' _ X Y row hs hg hr => by obtain ⟨Bx, h1, h2, h3⟩ := hs; exact ⟨Bx, h1, whole_own Bx 165 (fun (_ : Unit) => _) () X Y row h2 hg (fun r e => (hr r e).2), h3⟩)
    ?assign ?body ?done ?stop
  case assign =>
    rintro l pre x W K ⟨⟨⟨h0, h1⟩, h2⟩, hB⟩ hK
    simp only [encP]
    gi_wp2
    exact hK _ _ ((KeepsOthers.alloc _ _).from _) trivial ⟨⟨⟨h0.alloc _, h1.alloc _⟩, h2.alloc _⟩, hB.alloc (by have := h0.lt; omega) _⟩ ⟨W.heap.size, h2.lt, Whole.new W 165 _, rfl⟩
  case body =>
    rintro l pre x a' W hl ⟨r, hr⟩ ⟨⟨⟨h0, h1⟩, h2⟩, hB⟩ ⟨Bx, hBx, bX, rfl⟩ hlt
    have hx : x.val < 9 := x.isLt
    have hxi : ((x.val : Nat) : Int) < 9 := by omega
    have d0 : W.drew.cell? ⟨Bx, 0, none⟩ = some (.pointer (some ⟨S + 1 + 1, x.val, none⟩)) := bX.cell 0
    have d1 : W.drew.cell? ⟨S, 0, none⟩ = some (.slice (some x0) 9 cap) := h0.cell
    have d2 : W.drew.cell? (x0.add x.val) = some (.int .i64 (c x.val)) := by
      show W.cell? _ = _
      rw [hB.cell (p := x0.add x.val) (by rw [add_block']; exact hx0)]
      exact HC.out x.val hx
    have d3 : W.drew.cell? ⟨S + 1 + 1, x.val, none⟩ = some (.int .i64 (part c pre x.val)) := (h2.cell x.val).trans (confCells_at _ x)
    have d4 : W.drew.frozen? ⟨S + 1 + 1, x.val, none⟩ = false := h2.frozen x.val
    have H0 := Aside.mk h0
    have H1 := Aside.mk h1
    have H2 := Aside.mk h2
    have HB := Aside.mk hB
    have HSN := Aside.mk (part_snoc c pre x)
    clear hr r hl h0 h1 h2 hB bX hBx hlt hR0 hR1 hR2 hB0 hsz hg2 hx0
    gi_wp2
    refine wpIn_region_still_tail 7 (by kernel_rfl) (by kernel_rfl) (by rintro ⟨a, w, h⟩; exact h) (by kernel_rfl) ?_
    simp only [List.take_succ_cons, List.take_zero, List.drop_succ_cons, List.drop_zero]
    iterate 7 (refine Reads.want rfl (fun K hK => ?_); go_simp; refine hK.out _ ?_; clear hK K)
    refine Reads.nil ?_
    go_wp2_with fail
    exact ⟨((KeepsOthers.drew W).trans (KeepsOthers.setCell _ _ _)).from _, trivial, ⟨⟨Whole.far (w := W.drew) (g := S) (t := 88) (cs := #[.slice (some x0) 9 cap]) (p := ⟨S + 1 + 1, x.val, none⟩) H0.out (by show S ≠ S + 1 + 1; omega) _, Whole.far (w := W.drew) (p := ⟨S + 1 + 1, x.val, none⟩) H1.out (by show S + 1 ≠ S + 1 + 1; omega) _⟩,
      by rw [← HSN.out]; exact Whole.set_ (w := W.drew) H2.out x.val _⟩, (HB.out.trans (below_drew _ W)).setCell (p := ⟨S + 1 + 1, x.val, none⟩) (by show S ≤ S + 1 + 1; omega) _⟩
  case done =>
    rintro D ys W hD rfl ⟨⟨⟨h0, h1⟩, h2⟩, hB⟩ hK
    rw [part_all] at h2
    have HB := Aside.mk hB
    have HKD := Aside.mk hK
    have HD : Aside (S + 3 ≤ D) := ⟨by omega⟩
    have HDW : Aside (D < W.heap.size) := ⟨(Array.getElem?_eq_some_iff.1 hK).1⟩
    have H1 := Aside.mk h1
    have H2 := Aside.mk h2
    clear hB hK h0 h1 hR0 hR1 hR2 hB0 hsz hg2 hx0 hD
    rcases HRES.out with ⟨rfl, rfl⟩ | ⟨rfl, rfl⟩
    · clear HRES
      have hKS : S ≤ W.heap.size := by have := HD.out; have := HDW.out; omega
      have HKS := Aside.mk hKS
      clear hKS
      gi_wp2_with (refine wpListIn_load_row rfl 62 _ rfl (S + 1 + 1) rfl 62 _ (0, 0) _ H2.out Try.underlying62 rfl (by kernel_rfl) ?_)
      refine ⟨trivial, ?_⟩
      refine (callsIn_wide.2 (CK.out _)).mono ?_
      rintro e w3 ⟨rfl, k3⟩
      have H1' := Aside.mk (k3.whole H1.out (by simp))
      have H2' := Aside.mk (k3.whole H2.out (by simp))
      have HK3 := Aside.mk k3
      have HD3 : Aside (w3.heap[D]? = some (.deferred (some []))) := ⟨(k3.block D HDW.out (by simp)).trans HKD.out⟩
      clear k3 h2
      gi_wp2_with (first | (refine wpListIn_load_row rfl 62 _ rfl (S + 1 + 1) rfl 62 _ (0, 0) _ H2'.out Try.underlying62 rfl (by kernel_rfl) ?_) | (refine wpListIn_store_whole rfl 62 _ _ rfl (S + 1) (confCells fun _ => 0) _ rfl rfl H1'.out (by kernel_rfl) (by kernel_rfl) (by kernel_rfl) ?_))
      have HDD := HD.out
      have hKD' : (w3.setRow (S + 1) (confCells c)).heap[D]? = some (.deferred (some [])) := ((setRow_keeps w3 (S + 1) _).block D (Array.getElem?_eq_some_iff.1 HD3.out).1 (by simp; omega)).trans HD3.out
      refine ⟨by simp, .inl ⟨_, _, rfl, run_takeDeferred hKD', ?_⟩⟩
      have hW4 : Whole ((w3.setRow (S + 1) (confCells c)).putObj D (.deferred none)) (S + 1) 62 (confCells c) := (World.putObj_heap_other (by omega)).trans (setRow_whole _ H1'.out)
      have hrun := run_loadVar_row (P := Try.prog) _ (S + 1) 62 62 (confCells c) (0, 0) _ hW4 Try.underlying62 rfl (by kernel_rfl)
      refine ⟨.tuple #[.agg (confCells c), .int .i64 0], by simp [results, Try.f60, asAddr, hrun], rfl, Keeps.of_below ?_⟩
      rw [← HS.out]
      exact ((HB.out.trans (HK3.out.below HKS.out (by simp))).trans ((setRow_keeps w3 (S + 1) _).below (by have := HK3.out.size; have := HKS.out; omega) (by simp))).trans (belowK_b (n₀ := S) (w := w) (by rw [HS.out]; exact Nat.le_refl _) _ D _ _ (by rw [← HS.out]; omega) hKD' rfl rfl)
    · clear HRES
      have hKS : S ≤ W.heap.size := by have := HD.out; have := HDW.out; omega
      have HKS := Aside.mk hKS
      clear hKS
      gi_wp2_with (refine wpListIn_load_row rfl 62 _ rfl (S + 1 + 1) rfl 62 _ (0, 0) _ H2.out Try.underlying62 rfl (by kernel_rfl) ?_)
      refine ⟨trivial, ?_⟩
      refine (callsIn_wide.2 (CK.out _)).mono ?_
      rintro e w3 ⟨rfl, k3⟩
      have H1' := Aside.mk (k3.whole H1.out (by simp))
      have H2' := Aside.mk (k3.whole H2.out (by simp))
      have HK3 := Aside.mk k3
      have HD3 : Aside (w3.heap[D]? = some (.deferred (some []))) := ⟨(k3.block D HDW.out (by simp)).trans HKD.out⟩
      clear k3 h2
      gi_wp2_with (first | (refine wpListIn_load_row rfl 62 _ rfl (S + 1 + 1) rfl 62 _ (0, 0) _ H2'.out Try.underlying62 rfl (by kernel_rfl) ?_) | (refine wpListIn_store_whole rfl 62 _ _ rfl (S + 1) (confCells fun _ => 0) _ rfl rfl H1'.out (by kernel_rfl) (by kernel_rfl) (by kernel_rfl) ?_))
      have HDD := HD.out
      have hKD' : (w3.setRow (S + 1) (confCells (fun _ => 0))).heap[D]? = some (.deferred (some [])) := ((setRow_keeps w3 (S + 1) _).block D (Array.getElem?_eq_some_iff.1 HD3.out).1 (by simp; omega)).trans HD3.out
      refine ⟨by simp, .inl ⟨_, _, rfl, run_takeDeferred hKD', ?_⟩⟩
      have hW4 : Whole ((w3.setRow (S + 1) (confCells (fun _ => 0))).putObj D (.deferred none)) (S + 1) 62 (confCells (fun _ => 0)) := (World.putObj_heap_other (by omega)).trans (setRow_whole _ H1'.out)
      have hrun := run_loadVar_row (P := Try.prog) _ (S + 1) 62 62 (confCells (fun _ => 0)) (0, 0) _ hW4 Try.underlying62 rfl (by kernel_rfl)
      refine ⟨.tuple #[.agg (confCells (fun _ => 0)), .int .i64 1], by simp [results, Try.f60, asAddr, hrun], rfl, Keeps.of_below ?_⟩
      rw [← HS.out]
      exact ((HB.out.trans (HK3.out.below HKS.out (by simp))).trans ((setRow_keeps w3 (S + 1) _).below (by have := HK3.out.size; have := HKS.out; omega) (by simp))).trans (belowK_b (n₀ := S) (w := w) (by rw [HS.out]; exact Nat.le_refl _) _ D _ _ (by rw [← HS.out]; omega) hKD' rfl rfl)
  case stop =>
    rintro D cd pre W _ _ h _
    exact h.elim

theorem of_nine (x0 : Addr) (cap : Nat) (c : Nat → Int) (w : World) (hx0 : x0.block < w.heap.size) (hcs : ∀ i, i < 9 → w.cell? (x0.add i) = some (.int .i64 (c i))) :
    Calls Try.prog 60 #[.slice (some x0) 9 cap] w fun e w' => e = .returned (.tuple #[.agg (confCells (ofRes c)), .int .i64 (checkRes c)]) ∧ Keeps [] w w' := by
  refine of_nine_at x0 cap c _ _ ?_ (check_calls c) w hx0 hcs
  unfold checkRes ofRes
  by_cases hok : confOk c = true
  · rw [if_pos hok, if_pos hok]
    exact .inl ⟨rfl, rfl⟩
  · rw [if_neg hok, if_neg hok]
    exact .inr ⟨rfl, rfl⟩
end Go.Proofs.Ythcjcgagbpfkpaa

/- conf.Check. -/
import Derived.Test.YthcjcgagbpfkpaaIter
import Derived.Test.YthcjcgagbpfkpaaRound
namespace Go.Proofs.Ythcjcgagbpfkpaa
set_option linter.unusedVariables false
set_option linter.unusedSimpArgs false
open Go.RowKit Go.Shelf
attribute [local go_sem] Oper.semAt_some

/-- A configuration's cells. -/
@[reducible] def confCells (c : Nat → Int) : Array Value :=
  #[.int .i64 (c 0), .int .i64 (c 1), .int .i64 (c 2), .int .i64 (c 3), .int .i64 (c 4), .int .i64 (c 5), .int .i64 (c 6), .int .i64 (c 7), .int .i64 (c 8)]
theorem confCells_at (c : Nat → Int) (x : Fin 9) : (confCells c)[x.val]? = some (.int .i64 (c x.val)) := by
  obtain ⟨k, hk⟩ := x
  obtain rfl | rfl | rfl | rfl | rfl | rfl | rfl | rfl | rfl : k = 0 ∨ k = 1 ∨ k = 2 ∨ k = 3 ∨ k = 4 ∨ k = 5 ∨ k = 6 ∨ k = 7 ∨ k = 8 := by omega
  all_goals rfl

/-- A number is within its bounds. -/
def okAt (c : Nat → Int) (i : Nat) : Bool := decide (leastOf i ≤ c i ∧ c i ≤ mostOf i)
def confOk (c : Nat → Int) : Bool := (List.finRange 9).all fun i => okAt c i.val
def checkRes (c : Nat → Int) : Int := if confOk c then 0 else 1
theorem confOk_yes {c : Nat → Int} (h : ∀ i ∈ List.finRange 9, okAt c i.val = true) : checkRes c = 0 := by
  unfold checkRes confOk
  rw [if_pos (List.all_eq_true.2 h)]
theorem confOk_no {c : Nat → Int} (h : ∃ i : Fin 9, okAt c i.val = false) : checkRes c = 1 := by
  obtain ⟨i, hi⟩ := h
  unfold checkRes confOk
  rw [if_neg]
  intro hall
  have := List.all_eq_true.1 hall i (List.mem_finRange i)
  rw [hi] at this
  cases this

theorem below_drew (n : Nat) (W : World) : Below n W W.drew := ⟨rfl, rfl, rfl, Nat.le_refl _, fun _ _ => rfl⟩
theorem whole_own {β : Type} (g : Nat) (t : TypeId) (f : β → Array Value) : Own (fun s W => Whole W g t (f s)) := fun s X Y row hs hg hrow =>
  (hg.block g hs.lt (fun e' => by obtain ⟨o, ho, hc⟩ := hrow g e'.symm; rw [show X.heap[g]? = _ from hs] at ho; cases ho; cases hc)).trans hs

set_option maxRecDepth 100000 in
set_option maxHeartbeats 4000000 in
theorem check_calls (c : Nat → Int) (w : World) :
    Calls Try.prog 62 #[.agg (confCells c)] w fun e w' => e = .returned (.int .i64 (checkRes c)) ∧ Keeps [] w w' := by
  refine (callsIn_wide (n := 5)).1 ?_
  refine callsIn_of_wp_marks Try.func62 rfl trivial ?_ rfl
  simp only [Try.ntmps62, List.size_toArray, List.length_cons, List.length_nil, Nat.reduceAdd, Nat.reduceSub, Array.replicate_succ, Array.replicate_zero, List.push_toArray, List.append_toArray, List.nil_append, List.cons_append]
  gi_wp2_with (refine ⟨trivial, ?_⟩; gi_at_call 102; refine (callsIn_wide.2 (places_calls _ _)).mono ?_; rintro e w' ⟨g, rfl, hg1, hg2, hk⟩)
  have hsz : w.heap.size + 2 ≤ w'.heap.size := by have := hk.size; simp at this; omega
  have hW : Whole w' w.heap.size 62 (confCells c) := hk.whole ((Whole.new w 62 _).alloc _) (by simp)
  have hR : Boxed w' (w.heap.size + 1) 56 (.int .i64 0) := by
    have := hk.whole (Whole.new (w.alloc (.cells (confCells c) 62)) 56 #[.int .i64 0]) (by simp)
    simpa [Whole, Boxed] using this
  have hB0 : Below w.heap.size w w' := ((((Below.refl _ w).alloc (Nat.le_refl _) _).alloc (by simp) _).trans (hk.below (by simp; omega) (by simp)))
  clear hk
  refine wpIn_rangeFunc_ownH rfl (by omega) (gf := 112) (lb := #[.pointer (some ⟨g, 0, none⟩)]) rfl trivial (enters_of Try.func112 (by kernel_rfl) rfl)
    (iter_stops Fence.wide (5 - 1) trivial rfl (by omega) g w.heap.size w' hg2) (fun _ _ => trivial) (fun _ _ _ _ _ _ _ _ => trivial) (Below.refl _ _) (fun _ => rfl)
    (fun pre W => ((Whole W w.heap.size 62 (confCells c) ∧ Boxed W (w.heap.size + 1) 56 (.int .i64 0)) ∧ (∀ i ∈ pre, okAt c i.val = true)) ∧ Below w.heap.size w W)
    (fun cd pre W => ((cd = .ret ∧ ∃ i : Fin 9, okAt c i.val = false) ∧ Boxed W (w.heap.size + 1) 56 (.int .i64 1)) ∧ Below w.heap.size w W)
    (OwnFrom.and (OwnFrom.and (OwnFrom.and (Own.from (whole_own _ _ _) _) (Own.from (boxed_own _ _ _) _)) (ownFrom_pure _ _)) (ownFrom_below (Nat.le_refl _) (by omega)))
    (fun cd => OwnFrom.and (OwnFrom.and (ownFrom_pure _ _) (Own.from (boxed_own _ _ _) _)) (ownFrom_below (Nat.le_refl _) (by omega)))
    ⟨⟨⟨hW, hR⟩, by simp⟩, hB0⟩
    (fun x a' W => ∃ Bx, w.heap.size + 1 < Bx ∧ Whole W Bx 165 #[.pointer (some ⟨w.heap.size, x.val, none⟩), .int .i64 (leastOf x.val), .int .i64 (mostOf x.val)] ∧
      a' = { tmps := #[.agg (confCells c), .pointer (some ⟨w.heap.size, 0, none⟩), .pointer (some ⟨w.heap.size + 1, 0, none⟩), undef, .pointer (some ⟨Bx, 0, none⟩),
        .func (.func 112) #[] #[.pointer (some ⟨g, 0, none⟩)], .int .i64 (x.val : Nat), .agg #[.pointer (some ⟨w.heap.size, x.val, none⟩), .int .i64 (leastOf x.val), .int .i64 (mostOf x.val)],
        undef, undef, undef, undef, undef, undef, undef, undef, undef, undef, undef, undef, undef, undef, undef, undef], defers := [] })
    (fun x a' _ X Y row hs hg hr => by obtain ⟨Bx, h1, h2, h3⟩ := hs; exact ⟨Bx, h1, whole_own Bx 165 (fun (_ : Unit) => _) () X Y row h2 hg (fun r e => (hr r e).2), h3⟩)
    ?assign ?body ?done ?stop
  case assign =>
    rintro l pre x W K ⟨⟨⟨hc, hr⟩, hp⟩, hB⟩ hK
    simp only [encP]
    gi_wp2
    exact hK _ _ ((KeepsOthers.alloc _ _).from _) trivial ⟨⟨⟨hc.alloc _, hr.alloc _⟩, hp⟩, hB.alloc hB.size _⟩ ⟨W.heap.size, hr.lt, Whole.new W 165 _, rfl⟩
  case body =>
    rintro l pre x a' W hl ⟨r, hr⟩ ⟨⟨⟨hc, hb⟩, hp⟩, hB⟩ ⟨Bx, hBx, bX, rfl⟩ hlt
    have hx : x.val < 9 := x.isLt
    have d0 : W.cell? ⟨Bx, 0, none⟩ = some (.pointer (some ⟨w.heap.size, x.val, none⟩)) := bX.cell 0
    have d1 : W.cell? ⟨Bx, 1, none⟩ = some (.int .i64 (leastOf x.val)) := bX.cell 1
    have d2 : W.cell? ⟨Bx, 2, none⟩ = some (.int .i64 (mostOf x.val)) := bX.cell 2
    have d3 : W.cell? ⟨w.heap.size, x.val, none⟩ = some (.int .i64 (c x.val)) := by rw [hc.cell]; exact confCells_at c x
    have HP : Aside (∀ i ∈ pre, okAt c i.val = true) := ⟨hp⟩
    clear hp
    have HO : Aside (okAt c x.val = decide (leastOf x.val ≤ c x.val ∧ c x.val ≤ mostOf x.val)) := ⟨rfl⟩
    have HC := Aside.mk hc
    have HBB := Aside.mk hb
    have HBL := Aside.mk hB
    have e0 := hb.cell
    have e1 := hb.frozen
    clear hr r hl hc hb hB hlt hx hg1 hg2 hsz hW hR hB0 bX hBx
    generalize c x.val = v at d3 HO
    generalize leastOf x.val = lo at d1 HO ⊢
    generalize mostOf x.val = hi at d2 HO ⊢
    by_cases h1 : v < lo
    · have b1 : decide (v < lo) = true := decide_eq_true h1
      gi_wp2
      refine wpIn_region_still (by kernel_rfl) (by kernel_rfl) (by rintro ⟨a, w, h⟩; exact h) (by kernel_rfl) ?_
      iterate 8 (refine Reads.want (by kernel_rfl) (fun K hK => ?_); go_simp; refine hK.out _ ?_; clear hK K)
      iterate 7 (refine Reads.skip (by kernel_rfl) (fun K hK => ?_); go_simp; refine hK.out _ ?_; clear hK K)
      refine Reads.want (by kernel_rfl) (fun K hK => ?_)
      go_simp
      refine hK.out _ ?_
      clear hK K
      refine Reads.nil ?_
      gi_wp2
      exact ⟨((KeepsOthers.drew W).trans (KeepsOthers.setCell _ _ _)).from _, ⟨⟨rfl, x, by rw [HO.out]; exact decide_eq_false (by omega)⟩, Boxed.set _ (W := W.drew) HBB.out⟩, (HBL.out.trans (below_drew _ W)).setCell (by simp) _⟩
    · have b1 : decide (v < lo) = false := decide_eq_false h1
      by_cases h2 : hi < v
      · have b2 : decide (hi < v) = true := decide_eq_true h2
        gi_wp2
        refine wpIn_region_still (by kernel_rfl) (by kernel_rfl) (by rintro ⟨a, w, h⟩; exact h) (by kernel_rfl) ?_
        iterate 8 (refine Reads.want (by kernel_rfl) (fun K hK => ?_); go_simp; refine hK.out _ ?_; clear hK K)
        iterate 7 (refine Reads.want (by kernel_rfl) (fun K hK => ?_); go_simp; refine hK.out _ ?_; clear hK K)
        refine Reads.want (by kernel_rfl) (fun K hK => ?_)
        go_simp
        refine hK.out _ ?_
        clear hK K
        refine Reads.nil ?_
        gi_wp2
        exact ⟨((KeepsOthers.drew W).trans (KeepsOthers.setCell _ _ _)).from _, ⟨⟨rfl, x, by rw [HO.out]; exact decide_eq_false (by omega)⟩, Boxed.set _ (W := W.drew) HBB.out⟩, (HBL.out.trans (below_drew _ W)).setCell (by simp) _⟩
      · have b2 : decide (hi < v) = false := decide_eq_false h2
        gi_wp2
        refine wpIn_region_still (by kernel_rfl) (by kernel_rfl) (by rintro ⟨a, w, h⟩; exact h) (by kernel_rfl) ?_
        iterate 8 (refine Reads.want (by kernel_rfl) (fun K hK => ?_); go_simp; refine hK.out _ ?_; clear hK K)
        iterate 7 (refine Reads.want (by kernel_rfl) (fun K hK => ?_); go_simp; refine hK.out _ ?_; clear hK K)
        refine Reads.want (by kernel_rfl) (fun K hK => ?_)
        go_simp
        refine hK.out _ ?_
        clear hK K
        refine Reads.nil ?_
        gi_wp2
        exact ⟨(KeepsOthers.drew W).from _, trivial, ⟨⟨HC.out, HBB.out⟩, fun i hi' => by
          rcases List.mem_append.1 hi' with h | h
          · exact HP.out i h
          · obtain rfl := List.mem_singleton.1 h
            rw [HO.out]
            exact decide_eq_true (by omega)⟩, HBL.out.trans (below_drew _ W)⟩
  case done =>
    rintro D ys W hD rfl ⟨⟨⟨hc, hb⟩, hp⟩, hB⟩ hK
    have HP := Aside.mk (confOk_yes hp)
    clear hp
    have e0 := hb.cell
    have e1 := hb.frozen
    gi_wp2
    have hK' := (KeepsOthers.setCell W ⟨w.heap.size + 1, 0, none⟩ (.int .i64 0)).same D _ hK rfl
    refine ⟨by simp, .inl ⟨_, _, rfl, run_takeDeferred hK', ?_⟩⟩
    have hc5 := cell_kept (World.cell?_setCell_same' W ⟨w.heap.size + 1, 0, none⟩ (.int .i64 0) (by rw [e0]; rfl)) (grownBy_putObj' _ D (.deferred none)) (fun r e => by cases e; exact ⟨_, hK', rfl⟩)
    refine ⟨.int .i64 0, ?_, by rw [HP.out], Keeps.of_below ((hB.setCell (p := ⟨w.heap.size + 1, 0, none⟩) (by simp) _).trans (belowK_b (w := w) (Nat.le_refl _) _ D _ _ (by omega) hK' rfl rfl))⟩
    simp [results, Try.f62, go_sem, hc5]
  case stop =>
    rintro D cd pre W hD _ ⟨⟨⟨rfl, hi⟩, hb⟩, hB⟩ hK
    have HP := Aside.mk (confOk_no hi)
    clear hi
    have e0 := hb.cell
    gi_wp2
    refine ⟨by simp, .inl ⟨_, _, rfl, run_takeDeferred hK, ?_⟩⟩
    have hc5 := cell_kept e0 (grownBy_putObj' _ D (.deferred none)) (fun r e => by cases e; exact ⟨_, hK, rfl⟩)
    refine ⟨.int .i64 1, ?_, by rw [HP.out], Keeps.of_below (hB.trans (belowK_b (w := w) (Nat.le_refl _) _ D _ _ (by omega) hK rfl rfl))⟩
    simp [results, Try.f62, go_sem, hc5]
end Go.Proofs.Ythcjcgagbpfkpaa

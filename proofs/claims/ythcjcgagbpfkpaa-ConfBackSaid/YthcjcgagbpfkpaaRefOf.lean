/- The document's Of, by definition. -/
import Derived.Test.YthcjcgagbpfkpaaCOf
namespace Go.Proofs.Ythcjcgagbpfkpaa
set_option linter.unusedVariables false
set_option linter.unusedSimpArgs false
open Go.RowKit

section
variable {P : Program} {ops : Array Oper} {rest : List Oper} {o : Oper} {a : Act} {w : World} {Q : Exit → Act → World → Prop}
theorem wpList_store_whole (hgd : o.guard = none) (t : TypeId) (x y : Operand) (ho : o.op = .store t x y) (g : Nat) (c c' : Array Value)
    (hx : a.eval x = .pointer (some ⟨g, 0, none⟩)) (hy : a.eval y = .agg c') (hg : Whole w g t c)
    (hi : (P.info? t).map (·.size) = some c'.size) (hoc : c.size = c'.size) (h1 : c'.all (·.oneCell') = true)
    (h : wpList P ops Q rest (a.put o.dst undef) (w.setRow g c')) : wpList P ops Q (o :: rest) a w :=
  wpList_plain hgd fun K hK => by
    unfold Oper.wp execOp
    simp only [ho, hx, hy, Instr.storeAt, Instr.sureAddr, Sem.run_bind, Sem.run_pure, Result.andThen_ok, run_storeVar_row w g t t c c' hg hi hoc h1]
    exact hK _ _ h
end

/-- What the document's loop finds. -/
theorem res_bad {c : Nat → Int} {k : Nat} (hk : k < 9) (h : c k < 0 ∨ mostOf k < c k) : checkRes c = 1 ∧ ofRes c = fun _ => 0 := by
  have hno : okAt c k = false := by
    unfold okAt
    rw [decide_eq_false_iff_not]
    rintro ⟨h1, h2⟩
    have : 0 ≤ leastOf k := by unfold leastOf; split <;> omega
    omega
  have e := confOk_no ⟨⟨k, hk⟩, hno⟩
  refine ⟨e, ?_⟩
  unfold checkRes at e
  unfold ofRes
  by_cases hok : confOk c = true
  · rw [if_pos hok] at e; omega
  · rw [if_neg hok]
theorem res_low {c : Nat → Int} (h : c 0 < 1040) : checkRes c = 1 ∧ ofRes c = fun _ => 0 := by
  have hno : okAt c 0 = false := by
    unfold okAt leastOf
    rw [decide_eq_false_iff_not]
    simp
    intro h1
    omega
  have e := confOk_no ⟨⟨0, by omega⟩, hno⟩
  refine ⟨e, ?_⟩
  unfold checkRes at e
  unfold ofRes
  by_cases hok : confOk c = true
  · rw [if_pos hok] at e; omega
  · rw [if_neg hok]
theorem res_good {c : Nat → Int} (h : ∀ j, j < 9 → 0 ≤ c j ∧ c j ≤ mostOf j) (h0 : 1040 ≤ c 0) : checkRes c = 0 ∧ ofRes c = c := by
  have hall : ∀ i ∈ List.finRange 9, okAt c i.val = true := fun i _ => by
    unfold okAt leastOf
    rw [decide_eq_true_eq]
    have := h i.val i.isLt
    by_cases hi : i.val = 0
    · rw [if_pos hi]; rw [hi] at this ⊢; omega
    · rw [if_neg hi]; omega
  refine ⟨confOk_yes hall, ?_⟩
  unfold ofRes
  rw [if_pos]
  unfold confOk
  exact List.all_eq_true.2 hall

def mostCells : Array Value := #[.int .i64 1048576, .int .i64 1048576, .int .i64 1048576, .int .i64 1048576, .int .i64 64, .int .i64 64, .int .i64 16, .int .i64 1048576, .int .i64 1048576]
theorem most_at (k : Nat) (hk : k < 9) : mostCells[k]? = some (.int .i64 (mostOf k)) := by
  obtain rfl | rfl | rfl | rfl | rfl | rfl | rfl | rfl | rfl : k = 0 ∨ k = 1 ∨ k = 2 ∨ k = 3 ∨ k = 4 ∨ k = 5 ∨ k = 6 ∨ k = 7 ∨ k = 8 := by omega
  all_goals rfl
theorem add_zero' (g k : Nat) : (⟨g, 0, none⟩ : Addr).add k = ⟨g, k, none⟩ := by
  unfold Addr.add
  split
  · next h => rw [h]
  · simp

set_option maxRecDepth 100000 in
set_option maxHeartbeats 4000000 in
theorem refOf_len (a : Option Addr) (len cap : Nat) (hlen : len ≠ 9) (w : World) :
    Calls Try.prog 75 #[.slice a len cap] w fun e w' => e = .returned (.tuple #[.agg (confCells fun _ => 0), .int .i64 1]) ∧ Keeps [] w w' := by
  have h9 : ((len : Int) == 9) = false := by rw [beq_eq_false_iff_ne]; omega
  have h9' : ((len : Int) != 9) = true := by rw [bne_iff_ne]; omega
  clear hlen
  go_enter Try.func75, Try.ntmps75
  go_wp2_with fail
  refine bodyPost_ret (v := .tuple #[.agg (confCells fun _ => 0), .int .i64 1]) (by simp [results, Try.f75, go_sem]) rfl ⟨rfl, ?_⟩
  exact (Keeps.refl [] w).alloc _

set_option maxRecDepth 100000 in
set_option maxHeartbeats 8000000 in
theorem refOf_nine (x0 : Addr) (cap : Nat) (c : Nat → Int) (w : World) (hx0 : x0.block < w.heap.size) (hcs : ∀ i, i < 9 → w.cell? (x0.add i) = some (.int .i64 (c i))) :
    Calls Try.prog 75 #[.slice (some x0) 9 cap] w fun e w' => e = .returned (.tuple #[.agg (confCells (ofRes c)), .int .i64 (checkRes c)]) ∧ Keeps [] w w' := by
  have HC := Aside.mk hcs
  clear hcs
  go_enter Try.func75, Try.ntmps75
  go_wp2_with fail
  obtain ⟨S, hS⟩ : ∃ S, S = w.heap.size := ⟨_, rfl⟩
  obtain ⟨w1, hw1⟩ : ∃ w1, w1 = (w.alloc (.cells (confCells fun _ => 0) 62)).alloc (.cells mostCells 3) := ⟨_, rfl⟩
  have HZ : Aside (Whole w1 S 62 (confCells fun _ => 0)) := ⟨by rw [hw1, hS]; exact (Whole.new w 62 _).alloc _⟩
  have HM : Aside (Whole w1 (S + 1) 3 mostCells) := ⟨by have := Whole.new (w.alloc (.cells (confCells fun _ => 0) 62)) 3 mostCells; rw [World.size_alloc, ← hS] at this; rw [hw1]; exact this⟩
  have HK1 : Aside (Keeps [] w w1) := ⟨by rw [hw1]; exact ((Keeps.refl [] w).alloc _).alloc _⟩
  have hw1' := hw1
  simp only [confCells, mostCells] at hw1'
  rw [← hw1', ← hS]
  have HS := Aside.mk hS
  clear hw1 hw1' hS
  go_loopw [5] (fun v wr => ∃ k : Nat, k ≤ 9 ∧ v = .int .i64 k ∧ Aside (∀ j, j < k → 0 ≤ c j ∧ c j ≤ mostOf j) ∧ Aside (Keeps [] w1 wr)) (fun v _ => 9 - (intOf v).toNat)
  case atStart => exact ⟨0, by omega, rfl, ⟨fun j hj => by omega⟩, ⟨Keeps.refl _ _⟩⟩
  case round =>
    obtain ⟨k, hk, rfl, HP, HW⟩ := hrel
    by_cases hlt : k < 9
    · have d0 := (HK1.out.nil_trans HW.out).cell (HC.out k hlt) (by simp)
      have d1 := HW.out.cell ((HM.out.cell k).trans (most_at k hlt)) (by simp)
      have HBAD := Aside.mk (res_bad (c := c) hlt)
      have hki : (k : Int) < 9 := by omega
      generalize hu : c k = u at d0 HBAD
      generalize hm : mostOf k = m at d1 HBAD
      have HU := Aside.mk hu
      have HMM := Aside.mk hm
      clear hu hm
      have HZQ : Aside (∀ m, Whole (wr.drewN m) S 62 (confCells fun _ => 0)) := ⟨fun m => HW.out.whole HZ.out (by simp)⟩
      by_cases h1 : u < 0
      · have b1 : decide (u < 0) = true := decide_eq_true h1
        go_wp2_with fail
        go_quiet (fail)
        go_wp2_with (refine wpList_store_whole rfl 62 _ _ rfl S (confCells fun _ => 0) (confCells fun _ => 0) rfl rfl (HZQ.out _) (by kernel_rfl) (by kernel_rfl) (by kernel_rfl) ?_)
        have hrun := run_loadVar_row (P := Try.prog) _ S 62 62 (confCells fun _ => 0) (0, 0) _ (setRow_whole (confCells fun _ => 0) (HZQ.out nq)) Try.underlying62 rfl (by kernel_rfl)
        refine bodyPost_ret (v := .tuple #[.agg (confCells fun _ => 0), .int .i64 1]) (by simp [results, Try.f75, asAddr, hrun]) rfl ⟨?_, ?_⟩
        · obtain ⟨e1, e2⟩ := HBAD.out (.inl h1)
          rw [e1, e2]
        · exact ((HK1.out.nil_trans HW.out).drewN nq).trans (setRow_keeps _ S _) (by rw [HS.out]; simp)
      · have b1 : decide (u < 0) = false := decide_eq_false h1
        by_cases h2 : m < u
        · have b2 : decide (m < u) = true := decide_eq_true h2
          go_wp2_with fail
          go_quiet (fail)
          go_wp2_with (refine wpList_store_whole rfl 62 _ _ rfl S (confCells fun _ => 0) (confCells fun _ => 0) rfl rfl (HZQ.out _) (by kernel_rfl) (by kernel_rfl) (by kernel_rfl) ?_)
          have hrun := run_loadVar_row (P := Try.prog) _ S 62 62 (confCells fun _ => 0) (0, 0) _ (setRow_whole (confCells fun _ => 0) (HZQ.out nq)) Try.underlying62 rfl (by kernel_rfl)
          refine bodyPost_ret (v := .tuple #[.agg (confCells fun _ => 0), .int .i64 1]) (by simp [results, Try.f75, asAddr, hrun]) rfl ⟨?_, ?_⟩
          · obtain ⟨e1, e2⟩ := HBAD.out (.inr h2)
            rw [e1, e2]
          · exact ((HK1.out.nil_trans HW.out).drewN nq).trans (setRow_keeps _ S _) (by rw [HS.out]; simp)
        · have b2 : decide (m < u) = false := decide_eq_false h2
          go_wp2_with fail
          go_quiet (fail)
          go_wp2
          go_roundw
          case rel => exact ⟨k + 1, by omega, by go_num, ⟨fun j hj => by
            by_cases hjk : j = k
            · rw [hjk, HU.out, HMM.out]; omega
            · exact HP.out j (by omega)⟩, ⟨HW.out.drewN _⟩⟩
          case measure => simp [intOf]; omega
    · obtain rfl : k = 9 := by omega
      have HA := Aside.mk (fun i (h : i < 9) => (HK1.out.nil_trans HW.out).cell (HC.out i h) (by simp))
      have HZW : Aside (Whole wr S 62 (confCells fun _ => 0)) := ⟨HW.out.whole HZ.out (by simp)⟩
      have HGOOD := Aside.mk (res_good HP.out)
      have HLOW := Aside.mk (res_low (c := c))
      have f0 : wr.cell? x0 = some (.int .i64 (c 0)) := by have := HA.out 0 (by omega); rwa [show x0.add 0 = x0 by simp [Addr.add]] at this
      have f0' := HA.out 0 (by omega)
      have f1 : wr.cell? ⟨x0.block, x0.off + 1, none⟩ = some (.int .i64 (c 1)) := HA.out 1 (by omega)
      have f2 : wr.cell? ⟨x0.block, x0.off + 2, none⟩ = some (.int .i64 (c 2)) := HA.out 2 (by omega)
      have f3 : wr.cell? ⟨x0.block, x0.off + 3, none⟩ = some (.int .i64 (c 3)) := HA.out 3 (by omega)
      have f4 : wr.cell? ⟨x0.block, x0.off + 4, none⟩ = some (.int .i64 (c 4)) := HA.out 4 (by omega)
      have f5 : wr.cell? ⟨x0.block, x0.off + 5, none⟩ = some (.int .i64 (c 5)) := HA.out 5 (by omega)
      have f6 : wr.cell? ⟨x0.block, x0.off + 6, none⟩ = some (.int .i64 (c 6)) := HA.out 6 (by omega)
      have f7 : wr.cell? ⟨x0.block, x0.off + 7, none⟩ = some (.int .i64 (c 7)) := HA.out 7 (by omega)
      have f8 : wr.cell? ⟨x0.block, x0.off + 8, none⟩ = some (.int .i64 (c 8)) := HA.out 8 (by omega)
      by_cases h1 : c 0 < 1040
      · have b1 : decide (c 0 < 1040) = true := decide_eq_true h1
        go_wp2_with (refine wpList_store_whole rfl 62 _ _ rfl S (confCells fun _ => 0) (confCells fun _ => 0) rfl rfl HZW.out (by kernel_rfl) (by kernel_rfl) (by kernel_rfl) ?_)
        have hrun := run_loadVar_row (P := Try.prog) _ S 62 62 (confCells fun _ => 0) (0, 0) _ (setRow_whole (confCells fun _ => 0) HZW.out) Try.underlying62 rfl (by kernel_rfl)
        refine bodyPost_ret (v := .tuple #[.agg (confCells fun _ => 0), .int .i64 1]) (by simp [results, Try.f75, asAddr, hrun]) rfl ⟨?_, ?_⟩
        · obtain ⟨e1, e2⟩ := HLOW.out h1
          rw [e1, e2]
        · exact (HK1.out.nil_trans HW.out).trans (setRow_keeps _ S _) (by rw [HS.out]; simp)
      · have b1 : decide (c 0 < 1040) = false := decide_eq_false h1
        go_wp2_with fail
        refine wp_region_still_tail 28 (by kernel_rfl) (by kernel_rfl) (Reads.out ?_)
        simp only [List.take_succ_cons, List.take_zero, List.drop_succ_cons, List.drop_zero]
        iterate 28 (refine Reads.want rfl (fun K hK => ?_); go_simp; refine hK.out _ ?_; clear hK K)
        refine Reads.nil ?_
        have HZD : Aside (Whole wr.drew S 62 (confCells fun _ => 0)) := HZW
        have HKD : Aside (Keeps [] w wr.drew) := ⟨(HK1.out.nil_trans HW.out).drew⟩
        change wpList _ _ _ _ _ wr.drew
        generalize wr.drew = w2 at HZD HKD ⊢
        clear f0 f0' f1 f2 f3 f4 f5 f6 f7 f8 HA
        go_wp2_with (refine wpList_store_whole rfl 62 _ _ rfl S (confCells fun _ => 0) (confCells c) rfl rfl HZD.out (by kernel_rfl) (by kernel_rfl) (by kernel_rfl) ?_)
        have hrun := run_loadVar_row (P := Try.prog) _ S 62 62 (confCells c) (0, 0) _ (setRow_whole (confCells c) HZD.out) Try.underlying62 rfl (by kernel_rfl)
        refine bodyPost_ret (v := .tuple #[.agg (confCells c), .int .i64 0]) (by simp [results, Try.f75, asAddr, hrun]) rfl ⟨?_, ?_⟩
        · obtain ⟨e1, e2⟩ := HGOOD.out (by omega)
          rw [e1, e2]
        · exact HKD.out.trans (setRow_keeps _ S _) (by rw [HS.out]; simp)
end Go.Proofs.Ythcjcgagbpfkpaa

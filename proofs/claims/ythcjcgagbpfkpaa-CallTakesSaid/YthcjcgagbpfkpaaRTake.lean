/- ref34's TakeCall, TakeBind, TakeSchema, TakeCancel: what the program's take. -/
import Derived.Test.YthcjcgagbpfkpaaSteps
import Derived.Test.YthcjcgagbpfkpaaCallTake
namespace Go.Proofs.Ythcjcgagbpfkpaa
set_option linter.unusedVariables false
set_option linter.unusedSimpArgs false
open Go.RowKit

theorem addr0 (g n : Nat) : (⟨g, 0, none⟩ : Addr).add n = ⟨g, n, none⟩ := by
  unfold Addr.add
  split
  · simp_all
  · simp
theorem whole_last {X : World} {g : Nat} {cs : Array Value} {t : TypeId} (h : X.heap.size = g) : Whole (X.alloc (.cells cs t)) g t cs := h ▸ Whole.new X t cs
theorem stepsAt_whole {w : World} {g : Nat} {t : TypeId} {cs : Array Value} (h : Whole w g t cs) (L : List (Int × Int))
    (hc : ∀ i (hi : i < L.length), cs[i * 2]? = some (.int .i64 L[i].1) ∧ cs[i * 2 + 1]? = some (.int .i64 L[i].2) ∧ L[i].2 ≤ 9223372036854775807) : StepsAt w ⟨g, 0, none⟩ L := by
  intro i hi
  obtain ⟨h1, h2, h3⟩ := hc i hi
  rw [addr0]
  exact ⟨(h.cell _).trans h1, (h.cell _).trans h2, h3⟩
theorem done_iff {b : ByteArray} {s : Nat × Nat} (h : RdIn b s) : rdDone b s = 0 ↔ (s.2 = 0 ∧ s.1 = b.size) := by
  unfold rdDone
  have := h.1
  by_cases h0 : s.2 = 0
  · rw [if_neg (by omega)]
    by_cases h1 : s.1 < b.size
    · rw [if_pos h1]; omega
    · rw [if_neg h1]; omega
  · rw [if_pos h0]; omega

theorem i64_in' (n : Int) (h : -9223372036854775808 ≤ n ∧ n ≤ 9223372036854775807) : IntKind.i64.wrap n = n := by rw [IntKind.wrap_i64]; omega
theorem i64_nat {n : Nat} (h : n ≤ 1048576) : IntKind.i64.wrap (n : Int) = n := i64_in' _ (by omega)

set_option maxRecDepth 8000 in
set_option maxHeartbeats 4000000 in
theorem rTakeCall_calls (b : ByteArray) (hb : b.size ≤ 1152921504606846976) {x1 : Nat} {x2 : Nat} {x3 : Nat} {x4 : ByteArray} {er : Nat} (hT : callT b = ((x1, x2, x3, x4), er)) (w : World) :
    Calls Try.prog 81 #[.string b] w fun e' w' => e' = .returned (.tuple #[.agg #[.int .u64 x1, .int .i64 x2, .int .i64 x3, .string x4], .int .i64 er]) ∧ Keeps [] w w' := by
  obtain ⟨v1, s1, e1⟩ := pair_ex (rdNum b (0, 0))
  obtain ⟨v2, s2, e2⟩ := pair_ex (rdInt 1048576 b s1)
  obtain ⟨v3, s3, e3⟩ := pair_ex (rdInt 1048576 b s2)
  obtain ⟨v4, s4, e4⟩ := pair_ex (rdRest b s3)
  obtain ⟨d, e0⟩ : ∃ d, rdDone b s4 = d := ⟨_, rfl⟩
  have hc := callT_chain b e1 e2 e3 e4 e0
  obtain ⟨p1, b1⟩ := rdNum_in' e1 (RdIn.zero b)
  obtain ⟨p2, b2⟩ := rdInt_in' e2 p1
  obtain ⟨p3, b3⟩ := rdInt_in' e3 p2
  have p4 := rdRest_in' e4 p3
  have hrun : runG b [(1, 0), (2, 1048576), (2, 1048576), (4, 0)] = ([((v1, ⟨#[]⟩), s1), ((v2, ⟨#[]⟩), s2), ((v3, ⟨#[]⟩), s3), ((0, v4), s4)], s4) := by
    simp [runG, runStep, nextG, e1, e2, e3, e4]
  have hdi := done_iff p4
  rw [e0] at hdi
  clear e1 p1 e2 p2 e3 p3 e4 p4 e0
  by_cases hd : d = 0
  · have hE := hc.2 hd
    rw [hT] at hE
    simp only [Prod.mk.injEq] at hE
    obtain ⟨⟨rfl, rfl, rfl, rfl⟩, rfl⟩ := hE
    have hok : decide ((runG b [(1, 0), (2, 1048576), (2, 1048576), (4, 0)]).2.2 = 0 ∧ (runG b [(1, 0), (2, 1048576), (2, 1048576), (4, 0)]).2.1 = b.size) = true := by
      rw [hrun]
      simp only [decide_eq_true_eq]
      exact hdi.1 hd
    have HOK := Aside.mk hok
    have HRUN := Aside.mk hrun
    have c2 : IntKind.i64.wrap (x2 : Int) = x2 := i64_nat (by omega)
    have c3 : IntKind.i64.wrap (x3 : Int) = x3 := i64_nat (by omega)
    clear hc hT hok hrun hdi hd
    go_enter Try.func81, Try.ntmps81
    go_wp2_with fail
    refine (steps_calls b hb _ 4 _ [(1, 0), (2, 1048576), (2, 1048576), (4, 0)] rfl (by omega) _ ?hx ?hin).mono ?_
    case hx => simp
    case hin =>
      refine stepsAt_whole (whole_last (by simp)) _ ?_
      intro i hi
      match i, hi with
      | 0, _ => exact ⟨rfl, rfl, by simp⟩
      | 1, _ => exact ⟨rfl, rfl, by simp⟩
      | 2, _ => exact ⟨rfl, rfl, by simp⟩
      | 3, _ => exact ⟨rfl, rfl, by simp⟩
      | i + 4, h => simp at h <;> omega
    rintro e' w1 ⟨v, rfl, hown, hk⟩
    rw [HOK.out]
    rw [HRUN.out] at hown
    obtain ⟨g, cap, rfl, hbg, hgl⟩ := hown.form (by omega)
    have HC := Aside.mk (fun j u h => (show w1.cell? ⟨g, j, none⟩ = some u from (addr0 g j) ▸ hown.cells (g := g) rfl j u h))
    have y1 : w1.cell? ⟨g, 0, none⟩ = some (.int .u64 (x1 : Nat)) := HC.out 0 _ rfl
    have y2 : w1.cell? ⟨g, 4, none⟩ = some (.int .u64 (x2 : Nat)) := HC.out 4 _ rfl
    have y3 : w1.cell? ⟨g, 8, none⟩ = some (.int .u64 (x3 : Nat)) := HC.out 8 _ rfl
    have y4 : w1.cell? ⟨g, 13, none⟩ = some (.string x4) := HC.out 13 _ rfl
    have hA : Whole (w.alloc (.cells #[.int .u64 0, .int .i64 0, .int .i64 0, .string ⟨#[]⟩] 24)) w.heap.size 24 #[.int .u64 0, .int .i64 0, .int .i64 0, .string ⟨#[]⟩] := Whole.new _ _ _
    have hB := hk.whole ((hA.alloc _).alloc _) (by simp)
    have r1 : w1.cell? ⟨w.heap.size, 0, none⟩ = some (.int .u64 0) := hB.cell 0
    have r2 : w1.cell? ⟨w.heap.size, 1, none⟩ = some (.int .i64 0) := hB.cell 1
    have r3 : w1.cell? ⟨w.heap.size, 2, none⟩ = some (.int .i64 0) := hB.cell 2
    have r4 : w1.cell? ⟨w.heap.size, 3, none⟩ = some (.string ⟨#[]⟩) := hB.cell 3
    have rz : ∀ j, w1.frozen? ⟨w.heap.size, j, none⟩ = false := hB.frozen
    have HF := Aside.mk ((((hB.set_ 0 (.int .u64 x1)).set_ 1 (.int .i64 x2)).set_ 2 (.int .i64 x3)).set_ 3 (.string x4))
    have HK := Aside.mk (((((Keeps.refl [] w).alloc _).alloc _).alloc _).nil_trans hk)
    clear hk hown hA hB HC
    go_wp2_with fail
    go_region
    go_wp2
    have f1 := HF.out.cell 0
    have f2 := HF.out.cell 1
    have f3 := HF.out.cell 2
    have f4 := HF.out.cell 3
    simp at f1 f2 f3 f4
    refine bodyPost_ret (v := .tuple #[.agg #[.int .u64 x1, .int .i64 x2, .int .i64 x3, .string x4], .int .i64 0]) (by simp [results, Try.results81, go_sem, f1, f2, f3, f4]) rfl ⟨rfl, ?_⟩
    exact ((((HK.out.setCell (.inr (Nat.le_refl _)) _).setCell (.inr (Nat.le_refl _)) _).setCell (.inr (Nat.le_refl _)) _).setCell (.inr (Nat.le_refl _)) _).drew
  · have hE := hc.1 hd
    rw [hT] at hE
    simp only [Prod.mk.injEq] at hE
    obtain ⟨⟨rfl, rfl, rfl, rfl⟩, rfl⟩ := hE
    have hok : decide ((runG b [(1, 0), (2, 1048576), (2, 1048576), (4, 0)]).2.2 = 0 ∧ (runG b [(1, 0), (2, 1048576), (2, 1048576), (4, 0)]).2.1 = b.size) = false := by
      rw [hrun]
      simp only [decide_eq_false_iff_not]
      exact fun h => hd (hdi.2 h)
    have HOK := Aside.mk hok
    have HRUN := Aside.mk hrun
    clear hc hT hok hrun hdi hd
    go_enter Try.func81, Try.ntmps81
    go_wp2_with fail
    refine (steps_calls b hb _ 4 _ [(1, 0), (2, 1048576), (2, 1048576), (4, 0)] rfl (by omega) _ ?hx ?hin).mono ?_
    case hx => simp
    case hin =>
      refine stepsAt_whole (whole_last (by simp)) _ ?_
      intro i hi
      match i, hi with
      | 0, _ => exact ⟨rfl, rfl, by simp⟩
      | 1, _ => exact ⟨rfl, rfl, by simp⟩
      | 2, _ => exact ⟨rfl, rfl, by simp⟩
      | 3, _ => exact ⟨rfl, rfl, by simp⟩
      | i + 4, h => simp at h <;> omega
    rintro e' w1 ⟨v, rfl, hown, hk⟩
    rw [HOK.out]
    obtain ⟨g, cap, rfl, hbg, hgl⟩ := hown.form (by omega)
    have hA : Whole (w.alloc (.cells #[.int .u64 0, .int .i64 0, .int .i64 0, .string ⟨#[]⟩] 24)) w.heap.size 24 #[.int .u64 0, .int .i64 0, .int .i64 0, .string ⟨#[]⟩] := Whole.new _ _ _
    have hB := hk.whole ((hA.alloc _).alloc _) (by simp)
    have r1 : w1.cell? ⟨w.heap.size, 0, none⟩ = some (.int .u64 0) := hB.cell 0
    have r2 : w1.cell? ⟨w.heap.size, 1, none⟩ = some (.int .i64 0) := hB.cell 1
    have r3 : w1.cell? ⟨w.heap.size, 2, none⟩ = some (.int .i64 0) := hB.cell 2
    have r4 : w1.cell? ⟨w.heap.size, 3, none⟩ = some (.string ⟨#[]⟩) := hB.cell 3
    have rz : ∀ j, w1.frozen? ⟨w.heap.size, j, none⟩ = false := hB.frozen
    have HF := Aside.mk ((((hB.set_ 0 (.int .u64 0)).set_ 1 (.int .i64 0)).set_ 2 (.int .i64 0)).set_ 3 (.string ⟨#[]⟩))
    have HK := Aside.mk (((((Keeps.refl [] w).alloc _).alloc _).alloc _).nil_trans hk)
    clear hk hown hA hB
    go_wp2_with fail
    have f1 := HF.out.cell 0
    have f2 := HF.out.cell 1
    have f3 := HF.out.cell 2
    have f4 := HF.out.cell 3
    simp at f1 f2 f3 f4
    refine bodyPost_ret (v := .tuple #[.agg #[.int .u64 0, .int .i64 0, .int .i64 0, .string ⟨#[]⟩], .int .i64 1]) (by simp [results, Try.results81, go_sem, f1, f2, f3, f4]) rfl ⟨rfl, ?_⟩
    exact ((((HK.out.setCell (.inr (Nat.le_refl _)) _).setCell (.inr (Nat.le_refl _)) _).setCell (.inr (Nat.le_refl _)) _).setCell (.inr (Nat.le_refl _)) _)

set_option maxRecDepth 8000 in
set_option maxHeartbeats 4000000 in
theorem rTakeBind_calls (b : ByteArray) (hb : b.size ≤ 1152921504606846976) {x1 : Nat} {x2 : Nat} {x3 : ByteArray} {x4 : ByteArray} {x5 : Nat} {er : Nat} (hT : bindT b = ((x1, x2, x3, x4, x5), er)) (w : World) :
    Calls Try.prog 83 #[.string b] w fun e' w' => e' = .returned (.tuple #[.agg #[.int .u64 x1, .int .i64 x2, .string x3, .string x4, .int .i64 x5], .int .i64 er]) ∧ Keeps [] w w' := by
  obtain ⟨v1, s1, e1⟩ := pair_ex (rdNum b (0, 0))
  obtain ⟨v2, s2, e2⟩ := pair_ex (rdInt 1048576 b s1)
  obtain ⟨v3, s3, e3⟩ := pair_ex (rdText 16 b s2)
  obtain ⟨v4, s4, e4⟩ := pair_ex (rdText 16 b s3)
  obtain ⟨v5, s5, e5⟩ := pair_ex (rdInt 1048576 b s4)
  obtain ⟨d, e0⟩ : ∃ d, rdDone b s5 = d := ⟨_, rfl⟩
  have hc := bindT_chain b e1 e2 e3 e4 e5 e0
  obtain ⟨p1, b1⟩ := rdNum_in' e1 (RdIn.zero b)
  obtain ⟨p2, b2⟩ := rdInt_in' e2 p1
  have p3 := rdText_in' e3 p2
  have p4 := rdText_in' e4 p3
  obtain ⟨p5, b5⟩ := rdInt_in' e5 p4
  have hrun : runG b [(1, 0), (2, 1048576), (3, 16), (3, 16), (2, 1048576)] = ([((v1, ⟨#[]⟩), s1), ((v2, ⟨#[]⟩), s2), ((0, v3), s3), ((0, v4), s4), ((v5, ⟨#[]⟩), s5)], s5) := by
    simp [runG, runStep, nextG, e1, e2, e3, e4, e5]
  have hdi := done_iff p5
  rw [e0] at hdi
  clear e1 p1 e2 p2 e3 p3 e4 p4 e5 p5 e0
  by_cases hd : d = 0
  · have hE := hc.2 hd
    rw [hT] at hE
    simp only [Prod.mk.injEq] at hE
    obtain ⟨⟨rfl, rfl, rfl, rfl, rfl⟩, rfl⟩ := hE
    have hok : decide ((runG b [(1, 0), (2, 1048576), (3, 16), (3, 16), (2, 1048576)]).2.2 = 0 ∧ (runG b [(1, 0), (2, 1048576), (3, 16), (3, 16), (2, 1048576)]).2.1 = b.size) = true := by
      rw [hrun]
      simp only [decide_eq_true_eq]
      exact hdi.1 hd
    have HOK := Aside.mk hok
    have HRUN := Aside.mk hrun
    have c2 : IntKind.i64.wrap (x2 : Int) = x2 := i64_nat (by omega)
    have c5 : IntKind.i64.wrap (x5 : Int) = x5 := i64_nat (by omega)
    clear hc hT hok hrun hdi hd
    go_enter Try.func83, Try.ntmps83
    go_wp2_with fail
    refine (steps_calls b hb _ 5 _ [(1, 0), (2, 1048576), (3, 16), (3, 16), (2, 1048576)] rfl (by omega) _ ?hx ?hin).mono ?_
    case hx => simp
    case hin =>
      refine stepsAt_whole (whole_last (by simp)) _ ?_
      intro i hi
      match i, hi with
      | 0, _ => exact ⟨rfl, rfl, by simp⟩
      | 1, _ => exact ⟨rfl, rfl, by simp⟩
      | 2, _ => exact ⟨rfl, rfl, by simp⟩
      | 3, _ => exact ⟨rfl, rfl, by simp⟩
      | 4, _ => exact ⟨rfl, rfl, by simp⟩
      | i + 5, h => simp at h <;> omega
    rintro e' w1 ⟨v, rfl, hown, hk⟩
    rw [HOK.out]
    rw [HRUN.out] at hown
    obtain ⟨g, cap, rfl, hbg, hgl⟩ := hown.form (by omega)
    have HC := Aside.mk (fun j u h => (show w1.cell? ⟨g, j, none⟩ = some u from (addr0 g j) ▸ hown.cells (g := g) rfl j u h))
    have y1 : w1.cell? ⟨g, 0, none⟩ = some (.int .u64 (x1 : Nat)) := HC.out 0 _ rfl
    have y2 : w1.cell? ⟨g, 4, none⟩ = some (.int .u64 (x2 : Nat)) := HC.out 4 _ rfl
    have y3 : w1.cell? ⟨g, 9, none⟩ = some (.string x3) := HC.out 9 _ rfl
    have y4 : w1.cell? ⟨g, 13, none⟩ = some (.string x4) := HC.out 13 _ rfl
    have y5 : w1.cell? ⟨g, 16, none⟩ = some (.int .u64 (x5 : Nat)) := HC.out 16 _ rfl
    have hA : Whole (w.alloc (.cells #[.int .u64 0, .int .i64 0, .string ⟨#[]⟩, .string ⟨#[]⟩, .int .i64 0] 26)) w.heap.size 26 #[.int .u64 0, .int .i64 0, .string ⟨#[]⟩, .string ⟨#[]⟩, .int .i64 0] := Whole.new _ _ _
    have hB := hk.whole (((hA.alloc _).alloc _).alloc _) (by simp)
    have r1 : w1.cell? ⟨w.heap.size, 0, none⟩ = some (.int .u64 0) := hB.cell 0
    have r2 : w1.cell? ⟨w.heap.size, 1, none⟩ = some (.int .i64 0) := hB.cell 1
    have r3 : w1.cell? ⟨w.heap.size, 2, none⟩ = some (.string ⟨#[]⟩) := hB.cell 2
    have r4 : w1.cell? ⟨w.heap.size, 3, none⟩ = some (.string ⟨#[]⟩) := hB.cell 3
    have r5 : w1.cell? ⟨w.heap.size, 4, none⟩ = some (.int .i64 0) := hB.cell 4
    have rz : ∀ j, w1.frozen? ⟨w.heap.size, j, none⟩ = false := hB.frozen
    have HF := Aside.mk (((((hB.set_ 0 (.int .u64 x1)).set_ 1 (.int .i64 x2)).set_ 2 (.string x3)).set_ 3 (.string x4)).set_ 4 (.int .i64 x5))
    have HK := Aside.mk ((((((Keeps.refl [] w).alloc _).alloc _).alloc _).alloc _).nil_trans hk)
    clear hk hown hA hB HC
    go_wp2_with fail
    go_region
    go_wp2
    have f1 := HF.out.cell 0
    have f2 := HF.out.cell 1
    have f3 := HF.out.cell 2
    have f4 := HF.out.cell 3
    have f5 := HF.out.cell 4
    simp at f1 f2 f3 f4 f5
    refine bodyPost_ret (v := .tuple #[.agg #[.int .u64 x1, .int .i64 x2, .string x3, .string x4, .int .i64 x5], .int .i64 0]) (by simp [results, Try.results83, go_sem, f1, f2, f3, f4, f5]) rfl ⟨rfl, ?_⟩
    exact (((((HK.out.setCell (.inr (Nat.le_refl _)) _).setCell (.inr (Nat.le_refl _)) _).setCell (.inr (Nat.le_refl _)) _).setCell (.inr (Nat.le_refl _)) _).setCell (.inr (Nat.le_refl _)) _).drew
  · have hE := hc.1 hd
    rw [hT] at hE
    simp only [Prod.mk.injEq] at hE
    obtain ⟨⟨rfl, rfl, rfl, rfl, rfl⟩, rfl⟩ := hE
    have hok : decide ((runG b [(1, 0), (2, 1048576), (3, 16), (3, 16), (2, 1048576)]).2.2 = 0 ∧ (runG b [(1, 0), (2, 1048576), (3, 16), (3, 16), (2, 1048576)]).2.1 = b.size) = false := by
      rw [hrun]
      simp only [decide_eq_false_iff_not]
      exact fun h => hd (hdi.2 h)
    have HOK := Aside.mk hok
    have HRUN := Aside.mk hrun
    clear hc hT hok hrun hdi hd
    go_enter Try.func83, Try.ntmps83
    go_wp2_with fail
    refine (steps_calls b hb _ 5 _ [(1, 0), (2, 1048576), (3, 16), (3, 16), (2, 1048576)] rfl (by omega) _ ?hx ?hin).mono ?_
    case hx => simp
    case hin =>
      refine stepsAt_whole (whole_last (by simp)) _ ?_
      intro i hi
      match i, hi with
      | 0, _ => exact ⟨rfl, rfl, by simp⟩
      | 1, _ => exact ⟨rfl, rfl, by simp⟩
      | 2, _ => exact ⟨rfl, rfl, by simp⟩
      | 3, _ => exact ⟨rfl, rfl, by simp⟩
      | 4, _ => exact ⟨rfl, rfl, by simp⟩
      | i + 5, h => simp at h <;> omega
    rintro e' w1 ⟨v, rfl, hown, hk⟩
    rw [HOK.out]
    obtain ⟨g, cap, rfl, hbg, hgl⟩ := hown.form (by omega)
    have hA : Whole (w.alloc (.cells #[.int .u64 0, .int .i64 0, .string ⟨#[]⟩, .string ⟨#[]⟩, .int .i64 0] 26)) w.heap.size 26 #[.int .u64 0, .int .i64 0, .string ⟨#[]⟩, .string ⟨#[]⟩, .int .i64 0] := Whole.new _ _ _
    have hB := hk.whole (((hA.alloc _).alloc _).alloc _) (by simp)
    have r1 : w1.cell? ⟨w.heap.size, 0, none⟩ = some (.int .u64 0) := hB.cell 0
    have r2 : w1.cell? ⟨w.heap.size, 1, none⟩ = some (.int .i64 0) := hB.cell 1
    have r3 : w1.cell? ⟨w.heap.size, 2, none⟩ = some (.string ⟨#[]⟩) := hB.cell 2
    have r4 : w1.cell? ⟨w.heap.size, 3, none⟩ = some (.string ⟨#[]⟩) := hB.cell 3
    have r5 : w1.cell? ⟨w.heap.size, 4, none⟩ = some (.int .i64 0) := hB.cell 4
    have rz : ∀ j, w1.frozen? ⟨w.heap.size, j, none⟩ = false := hB.frozen
    have HF := Aside.mk (((((hB.set_ 0 (.int .u64 0)).set_ 1 (.int .i64 0)).set_ 2 (.string ⟨#[]⟩)).set_ 3 (.string ⟨#[]⟩)).set_ 4 (.int .i64 0))
    have HK := Aside.mk ((((((Keeps.refl [] w).alloc _).alloc _).alloc _).alloc _).nil_trans hk)
    clear hk hown hA hB
    go_wp2_with fail
    have f1 := HF.out.cell 0
    have f2 := HF.out.cell 1
    have f3 := HF.out.cell 2
    have f4 := HF.out.cell 3
    have f5 := HF.out.cell 4
    simp at f1 f2 f3 f4 f5
    refine bodyPost_ret (v := .tuple #[.agg #[.int .u64 0, .int .i64 0, .string ⟨#[]⟩, .string ⟨#[]⟩, .int .i64 0], .int .i64 1]) (by simp [results, Try.results83, go_sem, f1, f2, f3, f4, f5]) rfl ⟨rfl, ?_⟩
    exact (((((HK.out.setCell (.inr (Nat.le_refl _)) _).setCell (.inr (Nat.le_refl _)) _).setCell (.inr (Nat.le_refl _)) _).setCell (.inr (Nat.le_refl _)) _).setCell (.inr (Nat.le_refl _)) _)

set_option maxRecDepth 8000 in
set_option maxHeartbeats 4000000 in
theorem rTakeSchema_calls (b : ByteArray) (hb : b.size ≤ 1152921504606846976) {x1 : Nat} {x2 : ByteArray} {er : Nat} (hT : schemaT b = ((x1, x2), er)) (w : World) :
    Calls Try.prog 85 #[.string b] w fun e' w' => e' = .returned (.tuple #[.int .u64 x1, .string x2, .int .i64 er]) ∧ Keeps [] w w' := by
  obtain ⟨v1, s1, e1⟩ := pair_ex (rdNum b (0, 0))
  obtain ⟨v2, s2, e2⟩ := pair_ex (rdRest b s1)
  obtain ⟨d, e0⟩ : ∃ d, rdDone b s2 = d := ⟨_, rfl⟩
  have hc := schemaT_chain b e1 e2 e0
  obtain ⟨p1, b1⟩ := rdNum_in' e1 (RdIn.zero b)
  have p2 := rdRest_in' e2 p1
  have hrun : runG b [(1, 0), (4, 0)] = ([((v1, ⟨#[]⟩), s1), ((0, v2), s2)], s2) := by
    simp [runG, runStep, nextG, e1, e2]
  have hdi := done_iff p2
  rw [e0] at hdi
  clear e1 p1 e2 p2 e0
  by_cases hd : d = 0
  · have hE := hc.2 hd
    rw [hT] at hE
    simp only [Prod.mk.injEq] at hE
    obtain ⟨⟨rfl, rfl⟩, rfl⟩ := hE
    have hok : decide ((runG b [(1, 0), (4, 0)]).2.2 = 0 ∧ (runG b [(1, 0), (4, 0)]).2.1 = b.size) = true := by
      rw [hrun]
      simp only [decide_eq_true_eq]
      exact hdi.1 hd
    have HOK := Aside.mk hok
    have HRUN := Aside.mk hrun
    clear hc hT hok hrun hdi hd
    go_enter Try.func85, Try.ntmps85
    go_wp2_with fail
    refine (steps_calls b hb _ 2 _ [(1, 0), (4, 0)] rfl (by omega) _ ?hx ?hin).mono ?_
    case hx => simp
    case hin =>
      refine stepsAt_whole (whole_last (by simp)) _ ?_
      intro i hi
      match i, hi with
      | 0, _ => exact ⟨rfl, rfl, by simp⟩
      | 1, _ => exact ⟨rfl, rfl, by simp⟩
      | i + 2, h => simp at h <;> omega
    rintro e' w1 ⟨v, rfl, hown, hk⟩
    rw [HOK.out]
    rw [HRUN.out] at hown
    obtain ⟨g, cap, rfl, hbg, hgl⟩ := hown.form (by omega)
    have HC := Aside.mk (fun j u h => (show w1.cell? ⟨g, j, none⟩ = some u from (addr0 g j) ▸ hown.cells (g := g) rfl j u h))
    have y1 : w1.cell? ⟨g, 0, none⟩ = some (.int .u64 (x1 : Nat)) := HC.out 0 _ rfl
    have y2 : w1.cell? ⟨g, 5, none⟩ = some (.string x2) := HC.out 5 _ rfl
    have HF := Aside.mk (Nat.le_refl 0)
    have HK := Aside.mk (((Keeps.refl [] w).alloc _).nil_trans hk)
    clear hk hown HC
    go_wp2_with fail
    go_region
    go_wp2
    refine bodyPost_ret (v := .tuple #[.int .u64 x1, .string x2, .int .i64 0]) (by simp [results, Try.results85, go_sem]) rfl ⟨rfl, ?_⟩
    exact HK.out.drew
  · have hE := hc.1 hd
    rw [hT] at hE
    simp only [Prod.mk.injEq] at hE
    obtain ⟨⟨rfl, rfl⟩, rfl⟩ := hE
    have hok : decide ((runG b [(1, 0), (4, 0)]).2.2 = 0 ∧ (runG b [(1, 0), (4, 0)]).2.1 = b.size) = false := by
      rw [hrun]
      simp only [decide_eq_false_iff_not]
      exact fun h => hd (hdi.2 h)
    have HOK := Aside.mk hok
    have HRUN := Aside.mk hrun
    clear hc hT hok hrun hdi hd
    go_enter Try.func85, Try.ntmps85
    go_wp2_with fail
    refine (steps_calls b hb _ 2 _ [(1, 0), (4, 0)] rfl (by omega) _ ?hx ?hin).mono ?_
    case hx => simp
    case hin =>
      refine stepsAt_whole (whole_last (by simp)) _ ?_
      intro i hi
      match i, hi with
      | 0, _ => exact ⟨rfl, rfl, by simp⟩
      | 1, _ => exact ⟨rfl, rfl, by simp⟩
      | i + 2, h => simp at h <;> omega
    rintro e' w1 ⟨v, rfl, hown, hk⟩
    rw [HOK.out]
    obtain ⟨g, cap, rfl, hbg, hgl⟩ := hown.form (by omega)
    have HF := Aside.mk (Nat.le_refl 0)
    have HK := Aside.mk (((Keeps.refl [] w).alloc _).nil_trans hk)
    clear hk hown
    go_wp2_with fail
    refine bodyPost_ret (v := .tuple #[.int .u64 0, .string ⟨#[]⟩, .int .i64 1]) (by simp [results, Try.results85, go_sem]) rfl ⟨rfl, ?_⟩
    exact HK.out

set_option maxRecDepth 8000 in
set_option maxHeartbeats 4000000 in
theorem rTakeCancel_calls (b : ByteArray) (hb : b.size ≤ 1152921504606846976) {x1 : Nat} {er : Nat} (hT : cancelT b = (x1, er)) (w : World) :
    Calls Try.prog 87 #[.string b] w fun e' w' => e' = .returned (.tuple #[.int .u64 x1, .int .i64 er]) ∧ Keeps [] w w' := by
  obtain ⟨v1, s1, e1⟩ := pair_ex (rdNum b (0, 0))
  obtain ⟨d, e0⟩ : ∃ d, rdDone b s1 = d := ⟨_, rfl⟩
  have hc := cancelT_chain b e1 e0
  obtain ⟨p1, b1⟩ := rdNum_in' e1 (RdIn.zero b)
  have hrun : runG b [(1, 0)] = ([((v1, ⟨#[]⟩), s1)], s1) := by
    simp [runG, runStep, nextG, e1]
  have hdi := done_iff p1
  rw [e0] at hdi
  clear e1 p1 e0
  by_cases hd : d = 0
  · have hE := hc.2 hd
    rw [hT] at hE
    simp only [Prod.mk.injEq] at hE
    obtain ⟨rfl, rfl⟩ := hE
    have hok : decide ((runG b [(1, 0)]).2.2 = 0 ∧ (runG b [(1, 0)]).2.1 = b.size) = true := by
      rw [hrun]
      simp only [decide_eq_true_eq]
      exact hdi.1 hd
    have HOK := Aside.mk hok
    have HRUN := Aside.mk hrun
    clear hc hT hok hrun hdi hd
    go_enter Try.func87, Try.ntmps87
    go_wp2_with fail
    refine (steps_calls b hb _ 1 _ [(1, 0)] rfl (by omega) _ ?hx ?hin).mono ?_
    case hx => simp
    case hin =>
      refine stepsAt_whole (whole_last (by simp)) _ ?_
      intro i hi
      match i, hi with
      | 0, _ => exact ⟨rfl, rfl, by simp⟩
      | i + 1, h => simp at h <;> omega
    rintro e' w1 ⟨v, rfl, hown, hk⟩
    rw [HOK.out]
    rw [HRUN.out] at hown
    obtain ⟨g, cap, rfl, hbg, hgl⟩ := hown.form (by omega)
    have HC := Aside.mk (fun j u h => (show w1.cell? ⟨g, j, none⟩ = some u from (addr0 g j) ▸ hown.cells (g := g) rfl j u h))
    have y1 : w1.cell? ⟨g, 0, none⟩ = some (.int .u64 (x1 : Nat)) := HC.out 0 _ rfl
    have HF := Aside.mk (Nat.le_refl 0)
    have HK := Aside.mk (((Keeps.refl [] w).alloc _).nil_trans hk)
    clear hk hown HC
    go_wp2_with fail
    refine bodyPost_ret (v := .tuple #[.int .u64 x1, .int .i64 0]) (by simp [results, Try.results87, go_sem]) rfl ⟨rfl, ?_⟩
    exact HK.out
  · have hE := hc.1 hd
    rw [hT] at hE
    simp only [Prod.mk.injEq] at hE
    obtain ⟨rfl, rfl⟩ := hE
    have hok : decide ((runG b [(1, 0)]).2.2 = 0 ∧ (runG b [(1, 0)]).2.1 = b.size) = false := by
      rw [hrun]
      simp only [decide_eq_false_iff_not]
      exact fun h => hd (hdi.2 h)
    have HOK := Aside.mk hok
    have HRUN := Aside.mk hrun
    clear hc hT hok hrun hdi hd
    go_enter Try.func87, Try.ntmps87
    go_wp2_with fail
    refine (steps_calls b hb _ 1 _ [(1, 0)] rfl (by omega) _ ?hx ?hin).mono ?_
    case hx => simp
    case hin =>
      refine stepsAt_whole (whole_last (by simp)) _ ?_
      intro i hi
      match i, hi with
      | 0, _ => exact ⟨rfl, rfl, by simp⟩
      | i + 1, h => simp at h <;> omega
    rintro e' w1 ⟨v, rfl, hown, hk⟩
    rw [HOK.out]
    obtain ⟨g, cap, rfl, hbg, hgl⟩ := hown.form (by omega)
    have HF := Aside.mk (Nat.le_refl 0)
    have HK := Aside.mk (((Keeps.refl [] w).alloc _).nil_trans hk)
    clear hk hown
    go_wp2_with fail
    refine bodyPost_ret (v := .tuple #[.int .u64 0, .int .i64 1]) (by simp [results, Try.results87, go_sem]) rfl ⟨rfl, ?_⟩
    exact HK.out

end Go.Proofs.Ythcjcgagbpfkpaa

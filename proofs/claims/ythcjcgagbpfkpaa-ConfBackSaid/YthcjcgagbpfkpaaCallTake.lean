/- The bodies that are taken: TakeCall, TakeBind, TakeSchema, TakeCancel of the program, by the reader's steps. -/
import Derived.Test.YthcjcgagbpfkpaaReadAt
namespace Go.Proofs.Ythcjcgagbpfkpaa
set_option linter.unusedSimpArgs false
set_option linter.unusedVariables false
open Go.RowKit

/-- 34: what bytes are the body of, and the error. -/
def callT (b : ByteArray) : (Nat × Nat × Nat × ByteArray) × Nat :=
  let r1 := rdNum b (0, 0)
  let r2 := rdInt 1048576 b r1.2
  let r3 := rdInt 1048576 b r2.2
  let r4 := rdRest b r3.2
  if rdDone b r4.2 ≠ 0 then ((0, 0, 0, ⟨#[]⟩), 1) else ((r1.1, r2.1, r3.1, r4.1), 0)
theorem callT_chain (b : ByteArray) {v1 : Nat} {v2 : Nat} {v3 : Nat} {v4 : ByteArray} {d : Nat} {s1 s2 s3 s4 : Nat × Nat} (e1 : rdNum b (0, 0) = (v1, s1)) (e2 : rdInt 1048576 b s1 = (v2, s2)) (e3 : rdInt 1048576 b s2 = (v3, s3)) (e4 : rdRest b s3 = (v4, s4)) (e0 : rdDone b s4 = d) :
    (d ≠ 0 → callT b = ((0, 0, 0, ⟨#[]⟩), 1)) ∧ (d = 0 → callT b = ((v1, v2, v3, v4), 0)) := by
  unfold callT
  simp only [e1, e2, e3, e4, e0]
  exact ⟨fun h => if_pos h, fun h => if_neg (fun h' => h' h)⟩

set_option maxRecDepth 8000 in
set_option maxHeartbeats 2000000 in
theorem takeCall_calls (b : ByteArray) (hb : b.size ≤ 1152921504606846976) {x1 : Nat} {x2 : Nat} {x3 : Nat} {x4 : ByteArray} {er : Nat} (hT : callT b = ((x1, x2, x3, x4), er)) (w : World) :
    Calls Try.prog 80 #[.string b] w fun e' w' => e' = .returned (.tuple #[.agg #[.int .u64 x1, .int .i64 x2, .int .i64 x3, .string x4], .int .i64 er]) ∧ Keeps [] w w' := by
  obtain ⟨v1, s1, e1⟩ := pair_ex (rdNum b (0, 0))
  obtain ⟨v2, s2, e2⟩ := pair_ex (rdInt 1048576 b s1)
  obtain ⟨v3, s3, e3⟩ := pair_ex (rdInt 1048576 b s2)
  obtain ⟨v4, s4, e4⟩ := pair_ex (rdRest b s3)
  obtain ⟨d, e0⟩ : ∃ d, rdDone b s4 = d := ⟨_, rfl⟩
  have hc := callT_chain b e1 e2 e3 e4 e0
  obtain ⟨p1, b1⟩ := rdNum_in' e1 (RdIn.zero b)
  have C1 := Aside.mk (fun R w h => num_at hb (RdIn.zero b) R w h e1)
  obtain ⟨p2, b2⟩ := rdInt_in' e2 p1
  have C2 := Aside.mk (fun R w h => int_at hb p1 R w h (by omega) e2)
  obtain ⟨p3, b3⟩ := rdInt_in' e3 p2
  have C3 := Aside.mk (fun R w h => int_at hb p2 R w h (by omega) e3)
  have p4 := rdRest_in' e4 p3
  have C4 := Aside.mk (fun R w h => rest_at hb p3 R w h e4)
  have C0 := Aside.mk (fun R w h => done_at hb p4 R w h e0)
  clear e1 e2 e3 e4 e0 p1 p2 p3 p4
  by_cases hd : d = 0
  · have hE := hc.2 hd
    rw [hT] at hE
    simp only [Prod.mk.injEq] at hE
    obtain ⟨⟨rfl, rfl, rfl, rfl⟩, rfl⟩ := hE
    subst hd
    clear hc hT
    go_enter Try.func80, Try.ntmps80
    go_wp2_with fail
    refine (read_calls b _).mono ?_
    rintro e' u0 ⟨rfl, hr0, hk0⟩
    go_wp2_with fail
    have hr0' : Rd u0 (w.heap.size + 1) b (0, 0) := by simpa using hr0
    refine (C1.out _ _ hr0').mono ?_
    rintro e' u1 ⟨rfl, hr1, hk1⟩
    go_wp2_with fail
    refine (C2.out _ _ hr1).mono ?_
    rintro e' u2 ⟨rfl, hr2, hk2⟩
    go_wp2_with fail
    refine (C3.out _ _ hr2).mono ?_
    rintro e' u3 ⟨rfl, hr3, hk3⟩
    go_wp2_with fail
    refine (C4.out _ _ hr3).mono ?_
    rintro e' u4 ⟨rfl, hr4, hk4⟩
    have hkB := (((((hk0.more (L' := [w.heap.size + 1]) (by simp)).trans hk1 (by simp)).trans hk2 (by simp)).trans hk3 (by simp)).trans hk4 (by simp))
    have hB4 := hkB.whole (Whole.new _ _ _) (by simp)
    go_wp2_with fail
    refine (C0.out _ _ (Whole.alloc hr4 _)).mono ?_
    rintro e' u9 ⟨rfl, hk9⟩
    have hB0 := hk9.whole (hB4.alloc _) (by simp)
    have a0 : u9.cell? ⟨w.heap.size, 0, none⟩ = some (.int .u64 0) := hB0.cell 0
    have a1 : u9.cell? ⟨w.heap.size, 1, none⟩ = some (.int .i64 0) := hB0.cell 1
    have a2 : u9.cell? ⟨w.heap.size, 2, none⟩ = some (.int .i64 0) := hB0.cell 2
    have a3 : u9.cell? ⟨w.heap.size, 3, none⟩ = some (.string ⟨#[]⟩) := hB0.cell 3
    have az := fun j => hB0.frozen j
    have hB1 := hk9.whole (Whole.new _ _ _) (by simp)
    have b0 : u9.cell? ⟨u4.heap.size, 0, none⟩ = some (.int .u64 x1) := hB1.cell 0
    have b1 : u9.cell? ⟨u4.heap.size, 1, none⟩ = some (.int .i64 x2) := hB1.cell 1
    have b2 : u9.cell? ⟨u4.heap.size, 2, none⟩ = some (.int .i64 x3) := hB1.cell 2
    have b3 : u9.cell? ⟨u4.heap.size, 3, none⟩ = some (.string x4) := hB1.cell 3
    have HF := Aside.mk ((((hB0.set_ 0 (.int .u64 x1)).set_ 1 (.int .i64 x2)).set_ 2 (.int .i64 x3)).set_ 3 (.string x4))
    have HK := Aside.mk ((hkB.alloc (.cells #[.int .u64 x1, .int .i64 x2, .int .i64 x3, .string x4] 28)).nil_trans hk9)
    clear hB0 hB4 hr4 hB1
    go_wp2_with fail
    have f0 := HF.out.cell 0
    have f1 := HF.out.cell 1
    have f2 := HF.out.cell 2
    have f3 := HF.out.cell 3
    simp at f0 f1 f2 f3
    refine bodyPost_ret (v := .tuple #[.agg #[.int .u64 x1, .int .i64 x2, .int .i64 x3, .string x4], .int .i64 0]) (by simp [results, Try.results80, go_sem, f0, f1, f2, f3]) rfl ⟨rfl, ?_⟩
    have hkz := ((Keeps.refl [] w).alloc (.cells #[.int .u64 0, .int .i64 0, .int .i64 0, .string ⟨#[]⟩] 28))
    exact (((((hkz.trans HK.out (by simp)).setCell (.inr (Nat.le_refl _)) _).setCell (.inr (Nat.le_refl _)) _).setCell (.inr (Nat.le_refl _)) _).setCell (.inr (Nat.le_refl _)) _)

  · have hE := hc.1 hd
    rw [hT] at hE
    simp only [Prod.mk.injEq] at hE
    obtain ⟨⟨rfl, rfl, rfl, rfl⟩, rfl⟩ := hE
    have q0 : ((d : Int) == 0) = false := by rw [beq_eq_false_iff_ne]; omega
    have q1 : ((d : Int) != 0) = true := by rw [bne_iff_ne]; omega
    clear hc hT
    go_enter Try.func80, Try.ntmps80
    go_wp2_with fail
    refine (read_calls b _).mono ?_
    rintro e' u0 ⟨rfl, hr0, hk0⟩
    go_wp2_with fail
    have hr0' : Rd u0 (w.heap.size + 1) b (0, 0) := by simpa using hr0
    refine (C1.out _ _ hr0').mono ?_
    rintro e' u1 ⟨rfl, hr1, hk1⟩
    go_wp2_with fail
    refine (C2.out _ _ hr1).mono ?_
    rintro e' u2 ⟨rfl, hr2, hk2⟩
    go_wp2_with fail
    refine (C3.out _ _ hr2).mono ?_
    rintro e' u3 ⟨rfl, hr3, hk3⟩
    go_wp2_with fail
    refine (C4.out _ _ hr3).mono ?_
    rintro e' u4 ⟨rfl, hr4, hk4⟩
    have hkB := (((((hk0.more (L' := [w.heap.size + 1]) (by simp)).trans hk1 (by simp)).trans hk2 (by simp)).trans hk3 (by simp)).trans hk4 (by simp))
    have hB4 := hkB.whole (Whole.new _ _ _) (by simp)
    go_wp2_with fail
    refine (C0.out _ _ (Whole.alloc hr4 _)).mono ?_
    rintro e' u9 ⟨rfl, hk9⟩
    have hB0 := hk9.whole (hB4.alloc _) (by simp)
    have a0 : u9.cell? ⟨w.heap.size, 0, none⟩ = some (.int .u64 0) := hB0.cell 0
    have a1 : u9.cell? ⟨w.heap.size, 1, none⟩ = some (.int .i64 0) := hB0.cell 1
    have a2 : u9.cell? ⟨w.heap.size, 2, none⟩ = some (.int .i64 0) := hB0.cell 2
    have a3 : u9.cell? ⟨w.heap.size, 3, none⟩ = some (.string ⟨#[]⟩) := hB0.cell 3
    have az := fun j => hB0.frozen j
    have HF := Aside.mk ((((hB0.set_ 0 (.int .u64 0)).set_ 1 (.int .i64 0)).set_ 2 (.int .i64 0)).set_ 3 (.string ⟨#[]⟩))
    have HK := Aside.mk ((hkB.alloc (.cells #[.int .u64 v1, .int .i64 v2, .int .i64 v3, .string v4] 28)).nil_trans hk9)
    clear hB0 hB4 hr4
    go_wp2_with fail
    have f0 := HF.out.cell 0
    have f1 := HF.out.cell 1
    have f2 := HF.out.cell 2
    have f3 := HF.out.cell 3
    simp at f0 f1 f2 f3
    refine bodyPost_ret (v := .tuple #[.agg #[.int .u64 0, .int .i64 0, .int .i64 0, .string ⟨#[]⟩], .int .i64 1]) (by simp [results, Try.results80, go_sem, f0, f1, f2, f3]) rfl ⟨rfl, ?_⟩
    have hkz := ((Keeps.refl [] w).alloc (.cells #[.int .u64 0, .int .i64 0, .int .i64 0, .string ⟨#[]⟩] 28))
    exact (((((hkz.trans HK.out (by simp)).setCell (.inr (Nat.le_refl _)) _).setCell (.inr (Nat.le_refl _)) _).setCell (.inr (Nat.le_refl _)) _).setCell (.inr (Nat.le_refl _)) _)

/-- 34: what bytes are the body of, and the error. -/
def bindT (b : ByteArray) : (Nat × Nat × ByteArray × ByteArray × Nat) × Nat :=
  let r1 := rdNum b (0, 0)
  let r2 := rdInt 1048576 b r1.2
  let r3 := rdText 16 b r2.2
  let r4 := rdText 16 b r3.2
  let r5 := rdInt 1048576 b r4.2
  if rdDone b r5.2 ≠ 0 then ((0, 0, ⟨#[]⟩, ⟨#[]⟩, 0), 1) else ((r1.1, r2.1, r3.1, r4.1, r5.1), 0)
theorem bindT_chain (b : ByteArray) {v1 : Nat} {v2 : Nat} {v3 : ByteArray} {v4 : ByteArray} {v5 : Nat} {d : Nat} {s1 s2 s3 s4 s5 : Nat × Nat} (e1 : rdNum b (0, 0) = (v1, s1)) (e2 : rdInt 1048576 b s1 = (v2, s2)) (e3 : rdText 16 b s2 = (v3, s3)) (e4 : rdText 16 b s3 = (v4, s4)) (e5 : rdInt 1048576 b s4 = (v5, s5)) (e0 : rdDone b s5 = d) :
    (d ≠ 0 → bindT b = ((0, 0, ⟨#[]⟩, ⟨#[]⟩, 0), 1)) ∧ (d = 0 → bindT b = ((v1, v2, v3, v4, v5), 0)) := by
  unfold bindT
  simp only [e1, e2, e3, e4, e5, e0]
  exact ⟨fun h => if_pos h, fun h => if_neg (fun h' => h' h)⟩

set_option maxRecDepth 8000 in
set_option maxHeartbeats 2000000 in
theorem takeBind_calls (b : ByteArray) (hb : b.size ≤ 1152921504606846976) {x1 : Nat} {x2 : Nat} {x3 : ByteArray} {x4 : ByteArray} {x5 : Nat} {er : Nat} (hT : bindT b = ((x1, x2, x3, x4, x5), er)) (w : World) :
    Calls Try.prog 82 #[.string b] w fun e' w' => e' = .returned (.tuple #[.agg #[.int .u64 x1, .int .i64 x2, .string x3, .string x4, .int .i64 x5], .int .i64 er]) ∧ Keeps [] w w' := by
  obtain ⟨v1, s1, e1⟩ := pair_ex (rdNum b (0, 0))
  obtain ⟨v2, s2, e2⟩ := pair_ex (rdInt 1048576 b s1)
  obtain ⟨v3, s3, e3⟩ := pair_ex (rdText 16 b s2)
  obtain ⟨v4, s4, e4⟩ := pair_ex (rdText 16 b s3)
  obtain ⟨v5, s5, e5⟩ := pair_ex (rdInt 1048576 b s4)
  obtain ⟨d, e0⟩ : ∃ d, rdDone b s5 = d := ⟨_, rfl⟩
  have hc := bindT_chain b e1 e2 e3 e4 e5 e0
  obtain ⟨p1, b1⟩ := rdNum_in' e1 (RdIn.zero b)
  have C1 := Aside.mk (fun R w h => num_at hb (RdIn.zero b) R w h e1)
  obtain ⟨p2, b2⟩ := rdInt_in' e2 p1
  have C2 := Aside.mk (fun R w h => int_at hb p1 R w h (by omega) e2)
  have p3 := rdText_in' e3 p2
  have C3 := Aside.mk (fun R w h => text_at hb p2 R w h (by omega) e3)
  have p4 := rdText_in' e4 p3
  have C4 := Aside.mk (fun R w h => text_at hb p3 R w h (by omega) e4)
  obtain ⟨p5, b5⟩ := rdInt_in' e5 p4
  have C5 := Aside.mk (fun R w h => int_at hb p4 R w h (by omega) e5)
  have C0 := Aside.mk (fun R w h => done_at hb p5 R w h e0)
  clear e1 e2 e3 e4 e5 e0 p1 p2 p3 p4 p5
  by_cases hd : d = 0
  · have hE := hc.2 hd
    rw [hT] at hE
    simp only [Prod.mk.injEq] at hE
    obtain ⟨⟨rfl, rfl, rfl, rfl, rfl⟩, rfl⟩ := hE
    subst hd
    clear hc hT
    go_enter Try.func82, Try.ntmps82
    go_wp2_with fail
    refine (read_calls b _).mono ?_
    rintro e' u0 ⟨rfl, hr0, hk0⟩
    go_wp2_with fail
    have hr0' : Rd u0 (w.heap.size + 1) b (0, 0) := by simpa using hr0
    refine (C1.out _ _ hr0').mono ?_
    rintro e' u1 ⟨rfl, hr1, hk1⟩
    go_wp2_with fail
    refine (C2.out _ _ hr1).mono ?_
    rintro e' u2 ⟨rfl, hr2, hk2⟩
    go_wp2_with fail
    refine (C3.out _ _ hr2).mono ?_
    rintro e' u3 ⟨rfl, hr3, hk3⟩
    go_wp2_with fail
    refine (C4.out _ _ hr3).mono ?_
    rintro e' u4 ⟨rfl, hr4, hk4⟩
    go_wp2_with fail
    refine (C5.out _ _ hr4).mono ?_
    rintro e' u5 ⟨rfl, hr5, hk5⟩
    have hkB := ((((((hk0.more (L' := [w.heap.size + 1]) (by simp)).trans hk1 (by simp)).trans hk2 (by simp)).trans hk3 (by simp)).trans hk4 (by simp)).trans hk5 (by simp))
    have hB4 := hkB.whole (Whole.new _ _ _) (by simp)
    go_wp2_with fail
    refine (C0.out _ _ (Whole.alloc hr5 _)).mono ?_
    rintro e' u9 ⟨rfl, hk9⟩
    have hB0 := hk9.whole (hB4.alloc _) (by simp)
    have a0 : u9.cell? ⟨w.heap.size, 0, none⟩ = some (.int .u64 0) := hB0.cell 0
    have a1 : u9.cell? ⟨w.heap.size, 1, none⟩ = some (.int .i64 0) := hB0.cell 1
    have a2 : u9.cell? ⟨w.heap.size, 2, none⟩ = some (.string ⟨#[]⟩) := hB0.cell 2
    have a3 : u9.cell? ⟨w.heap.size, 3, none⟩ = some (.string ⟨#[]⟩) := hB0.cell 3
    have a4 : u9.cell? ⟨w.heap.size, 4, none⟩ = some (.int .i64 0) := hB0.cell 4
    have az := fun j => hB0.frozen j
    have hB1 := hk9.whole (Whole.new _ _ _) (by simp)
    have b0 : u9.cell? ⟨u5.heap.size, 0, none⟩ = some (.int .u64 x1) := hB1.cell 0
    have b1 : u9.cell? ⟨u5.heap.size, 1, none⟩ = some (.int .i64 x2) := hB1.cell 1
    have b2 : u9.cell? ⟨u5.heap.size, 2, none⟩ = some (.string x3) := hB1.cell 2
    have b3 : u9.cell? ⟨u5.heap.size, 3, none⟩ = some (.string x4) := hB1.cell 3
    have b4 : u9.cell? ⟨u5.heap.size, 4, none⟩ = some (.int .i64 x5) := hB1.cell 4
    have HF := Aside.mk (((((hB0.set_ 0 (.int .u64 x1)).set_ 1 (.int .i64 x2)).set_ 2 (.string x3)).set_ 3 (.string x4)).set_ 4 (.int .i64 x5))
    have HK := Aside.mk ((hkB.alloc (.cells #[.int .u64 x1, .int .i64 x2, .string x3, .string x4, .int .i64 x5] 32)).nil_trans hk9)
    clear hB0 hB4 hr5 hB1
    go_wp2_with fail
    have f0 := HF.out.cell 0
    have f1 := HF.out.cell 1
    have f2 := HF.out.cell 2
    have f3 := HF.out.cell 3
    have f4 := HF.out.cell 4
    simp at f0 f1 f2 f3 f4
    refine bodyPost_ret (v := .tuple #[.agg #[.int .u64 x1, .int .i64 x2, .string x3, .string x4, .int .i64 x5], .int .i64 0]) (by simp [results, Try.results82, go_sem, f0, f1, f2, f3, f4]) rfl ⟨rfl, ?_⟩
    have hkz := ((Keeps.refl [] w).alloc (.cells #[.int .u64 0, .int .i64 0, .string ⟨#[]⟩, .string ⟨#[]⟩, .int .i64 0] 32))
    exact ((((((hkz.trans HK.out (by simp)).setCell (.inr (Nat.le_refl _)) _).setCell (.inr (Nat.le_refl _)) _).setCell (.inr (Nat.le_refl _)) _).setCell (.inr (Nat.le_refl _)) _).setCell (.inr (Nat.le_refl _)) _)

  · have hE := hc.1 hd
    rw [hT] at hE
    simp only [Prod.mk.injEq] at hE
    obtain ⟨⟨rfl, rfl, rfl, rfl, rfl⟩, rfl⟩ := hE
    have q0 : ((d : Int) == 0) = false := by rw [beq_eq_false_iff_ne]; omega
    have q1 : ((d : Int) != 0) = true := by rw [bne_iff_ne]; omega
    clear hc hT
    go_enter Try.func82, Try.ntmps82
    go_wp2_with fail
    refine (read_calls b _).mono ?_
    rintro e' u0 ⟨rfl, hr0, hk0⟩
    go_wp2_with fail
    have hr0' : Rd u0 (w.heap.size + 1) b (0, 0) := by simpa using hr0
    refine (C1.out _ _ hr0').mono ?_
    rintro e' u1 ⟨rfl, hr1, hk1⟩
    go_wp2_with fail
    refine (C2.out _ _ hr1).mono ?_
    rintro e' u2 ⟨rfl, hr2, hk2⟩
    go_wp2_with fail
    refine (C3.out _ _ hr2).mono ?_
    rintro e' u3 ⟨rfl, hr3, hk3⟩
    go_wp2_with fail
    refine (C4.out _ _ hr3).mono ?_
    rintro e' u4 ⟨rfl, hr4, hk4⟩
    go_wp2_with fail
    refine (C5.out _ _ hr4).mono ?_
    rintro e' u5 ⟨rfl, hr5, hk5⟩
    have hkB := ((((((hk0.more (L' := [w.heap.size + 1]) (by simp)).trans hk1 (by simp)).trans hk2 (by simp)).trans hk3 (by simp)).trans hk4 (by simp)).trans hk5 (by simp))
    have hB4 := hkB.whole (Whole.new _ _ _) (by simp)
    go_wp2_with fail
    refine (C0.out _ _ (Whole.alloc hr5 _)).mono ?_
    rintro e' u9 ⟨rfl, hk9⟩
    have hB0 := hk9.whole (hB4.alloc _) (by simp)
    have a0 : u9.cell? ⟨w.heap.size, 0, none⟩ = some (.int .u64 0) := hB0.cell 0
    have a1 : u9.cell? ⟨w.heap.size, 1, none⟩ = some (.int .i64 0) := hB0.cell 1
    have a2 : u9.cell? ⟨w.heap.size, 2, none⟩ = some (.string ⟨#[]⟩) := hB0.cell 2
    have a3 : u9.cell? ⟨w.heap.size, 3, none⟩ = some (.string ⟨#[]⟩) := hB0.cell 3
    have a4 : u9.cell? ⟨w.heap.size, 4, none⟩ = some (.int .i64 0) := hB0.cell 4
    have az := fun j => hB0.frozen j
    have HF := Aside.mk (((((hB0.set_ 0 (.int .u64 0)).set_ 1 (.int .i64 0)).set_ 2 (.string ⟨#[]⟩)).set_ 3 (.string ⟨#[]⟩)).set_ 4 (.int .i64 0))
    have HK := Aside.mk ((hkB.alloc (.cells #[.int .u64 v1, .int .i64 v2, .string v3, .string v4, .int .i64 v5] 32)).nil_trans hk9)
    clear hB0 hB4 hr5
    go_wp2_with fail
    have f0 := HF.out.cell 0
    have f1 := HF.out.cell 1
    have f2 := HF.out.cell 2
    have f3 := HF.out.cell 3
    have f4 := HF.out.cell 4
    simp at f0 f1 f2 f3 f4
    refine bodyPost_ret (v := .tuple #[.agg #[.int .u64 0, .int .i64 0, .string ⟨#[]⟩, .string ⟨#[]⟩, .int .i64 0], .int .i64 1]) (by simp [results, Try.results82, go_sem, f0, f1, f2, f3, f4]) rfl ⟨rfl, ?_⟩
    have hkz := ((Keeps.refl [] w).alloc (.cells #[.int .u64 0, .int .i64 0, .string ⟨#[]⟩, .string ⟨#[]⟩, .int .i64 0] 32))
    exact ((((((hkz.trans HK.out (by simp)).setCell (.inr (Nat.le_refl _)) _).setCell (.inr (Nat.le_refl _)) _).setCell (.inr (Nat.le_refl _)) _).setCell (.inr (Nat.le_refl _)) _).setCell (.inr (Nat.le_refl _)) _)

/-- 34: what bytes are the body of, and the error. -/
def schemaT (b : ByteArray) : (Nat × ByteArray) × Nat :=
  let r1 := rdNum b (0, 0)
  let r2 := rdRest b r1.2
  if rdDone b r2.2 ≠ 0 then ((0, ⟨#[]⟩), 1) else ((r1.1, r2.1), 0)
theorem schemaT_chain (b : ByteArray) {v1 : Nat} {v2 : ByteArray} {d : Nat} {s1 s2 : Nat × Nat} (e1 : rdNum b (0, 0) = (v1, s1)) (e2 : rdRest b s1 = (v2, s2)) (e0 : rdDone b s2 = d) :
    (d ≠ 0 → schemaT b = ((0, ⟨#[]⟩), 1)) ∧ (d = 0 → schemaT b = ((v1, v2), 0)) := by
  unfold schemaT
  simp only [e1, e2, e0]
  exact ⟨fun h => if_pos h, fun h => if_neg (fun h' => h' h)⟩

set_option maxRecDepth 8000 in
set_option maxHeartbeats 2000000 in
theorem takeSchema_calls (b : ByteArray) (hb : b.size ≤ 1152921504606846976) {x1 : Nat} {x2 : ByteArray} {er : Nat} (hT : schemaT b = ((x1, x2), er)) (w : World) :
    Calls Try.prog 84 #[.string b] w fun e' w' => e' = .returned (.tuple #[.int .u64 x1, .string x2, .int .i64 er]) ∧ Keeps [] w w' := by
  obtain ⟨v1, s1, e1⟩ := pair_ex (rdNum b (0, 0))
  obtain ⟨v2, s2, e2⟩ := pair_ex (rdRest b s1)
  obtain ⟨d, e0⟩ : ∃ d, rdDone b s2 = d := ⟨_, rfl⟩
  have hc := schemaT_chain b e1 e2 e0
  obtain ⟨p1, b1⟩ := rdNum_in' e1 (RdIn.zero b)
  have C1 := Aside.mk (fun R w h => num_at hb (RdIn.zero b) R w h e1)
  have p2 := rdRest_in' e2 p1
  have C2 := Aside.mk (fun R w h => rest_at hb p1 R w h e2)
  have C0 := Aside.mk (fun R w h => done_at hb p2 R w h e0)
  clear e1 e2 e0 p1 p2
  by_cases hd : d = 0
  · have hE := hc.2 hd
    rw [hT] at hE
    simp only [Prod.mk.injEq] at hE
    obtain ⟨⟨rfl, rfl⟩, rfl⟩ := hE
    subst hd
    clear hc hT
    go_enter Try.func84, Try.ntmps84
    go_wp2_with fail
    refine (read_calls b _).mono ?_
    rintro e' u0 ⟨rfl, hr0, hk0⟩
    go_wp2_with fail
    have hr0' := hr0
    refine (C1.out _ _ hr0').mono ?_
    rintro e' u1 ⟨rfl, hr1, hk1⟩
    go_wp2_with fail
    refine (C2.out _ _ hr1).mono ?_
    rintro e' u2 ⟨rfl, hr2, hk2⟩
    have hkB := (((hk0.more (L' := [w.heap.size]) (by simp)).trans hk1 (by simp)).trans hk2 (by simp))
    go_wp2_with fail
    refine (C0.out _ _ hr2).mono ?_
    rintro e' u9 ⟨rfl, hk9⟩
    go_wp2_with fail
    go_ret3
    exact ⟨rfl, ((hkB.more (L' := []) (by simp)).nil_trans hk9)⟩

  · have hE := hc.1 hd
    rw [hT] at hE
    simp only [Prod.mk.injEq] at hE
    obtain ⟨⟨rfl, rfl⟩, rfl⟩ := hE
    have q0 : ((d : Int) == 0) = false := by rw [beq_eq_false_iff_ne]; omega
    have q1 : ((d : Int) != 0) = true := by rw [bne_iff_ne]; omega
    clear hc hT
    go_enter Try.func84, Try.ntmps84
    go_wp2_with fail
    refine (read_calls b _).mono ?_
    rintro e' u0 ⟨rfl, hr0, hk0⟩
    go_wp2_with fail
    have hr0' := hr0
    refine (C1.out _ _ hr0').mono ?_
    rintro e' u1 ⟨rfl, hr1, hk1⟩
    go_wp2_with fail
    refine (C2.out _ _ hr1).mono ?_
    rintro e' u2 ⟨rfl, hr2, hk2⟩
    have hkB := (((hk0.more (L' := [w.heap.size]) (by simp)).trans hk1 (by simp)).trans hk2 (by simp))
    go_wp2_with fail
    refine (C0.out _ _ hr2).mono ?_
    rintro e' u9 ⟨rfl, hk9⟩
    go_wp2_with fail
    go_ret3
    exact ⟨rfl, ((hkB.more (L' := []) (by simp)).nil_trans hk9)⟩

/-- 34: what bytes are the body of, and the error. -/
def cancelT (b : ByteArray) : (Nat) × Nat :=
  let r1 := rdNum b (0, 0)
  if rdDone b r1.2 ≠ 0 then (0, 1) else (r1.1, 0)
theorem cancelT_chain (b : ByteArray) {v1 : Nat} {d : Nat} {s1 : Nat × Nat} (e1 : rdNum b (0, 0) = (v1, s1)) (e0 : rdDone b s1 = d) :
    (d ≠ 0 → cancelT b = (0, 1)) ∧ (d = 0 → cancelT b = (v1, 0)) := by
  unfold cancelT
  simp only [e1, e0]
  exact ⟨fun h => if_pos h, fun h => if_neg (fun h' => h' h)⟩

set_option maxRecDepth 8000 in
set_option maxHeartbeats 2000000 in
theorem takeCancel_calls (b : ByteArray) (hb : b.size ≤ 1152921504606846976) {x1 : Nat} {er : Nat} (hT : cancelT b = (x1, er)) (w : World) :
    Calls Try.prog 86 #[.string b] w fun e' w' => e' = .returned (.tuple #[.int .u64 x1, .int .i64 er]) ∧ Keeps [] w w' := by
  obtain ⟨v1, s1, e1⟩ := pair_ex (rdNum b (0, 0))
  obtain ⟨d, e0⟩ : ∃ d, rdDone b s1 = d := ⟨_, rfl⟩
  have hc := cancelT_chain b e1 e0
  obtain ⟨p1, b1⟩ := rdNum_in' e1 (RdIn.zero b)
  have C1 := Aside.mk (fun R w h => num_at hb (RdIn.zero b) R w h e1)
  have C0 := Aside.mk (fun R w h => done_at hb p1 R w h e0)
  clear e1 e0 p1
  by_cases hd : d = 0
  · have hE := hc.2 hd
    rw [hT] at hE
    simp only [Prod.mk.injEq] at hE
    obtain ⟨rfl, rfl⟩ := hE
    subst hd
    clear hc hT
    go_enter Try.func86, Try.ntmps86
    go_wp2_with fail
    refine (read_calls b _).mono ?_
    rintro e' u0 ⟨rfl, hr0, hk0⟩
    go_wp2_with fail
    have hr0' := hr0
    refine (C1.out _ _ hr0').mono ?_
    rintro e' u1 ⟨rfl, hr1, hk1⟩
    have hkB := ((hk0.more (L' := [w.heap.size]) (by simp)).trans hk1 (by simp))
    go_wp2_with fail
    refine (C0.out _ _ hr1).mono ?_
    rintro e' u9 ⟨rfl, hk9⟩
    go_wp2_with fail
    go_ret2
    exact ⟨rfl, ((hkB.more (L' := []) (by simp)).nil_trans hk9)⟩

  · have hE := hc.1 hd
    rw [hT] at hE
    simp only [Prod.mk.injEq] at hE
    obtain ⟨rfl, rfl⟩ := hE
    have q0 : ((d : Int) == 0) = false := by rw [beq_eq_false_iff_ne]; omega
    have q1 : ((d : Int) != 0) = true := by rw [bne_iff_ne]; omega
    clear hc hT
    go_enter Try.func86, Try.ntmps86
    go_wp2_with fail
    refine (read_calls b _).mono ?_
    rintro e' u0 ⟨rfl, hr0, hk0⟩
    go_wp2_with fail
    have hr0' := hr0
    refine (C1.out _ _ hr0').mono ?_
    rintro e' u1 ⟨rfl, hr1, hk1⟩
    have hkB := ((hk0.more (L' := [w.heap.size]) (by simp)).trans hk1 (by simp))
    go_wp2_with fail
    refine (C0.out _ _ hr1).mono ?_
    rintro e' u9 ⟨rfl, hk9⟩
    go_wp2_with fail
    go_ret2
    exact ⟨rfl, ((hkB.more (L' := []) (by simp)).nil_trans hk9)⟩

end Go.Proofs.Ythcjcgagbpfkpaa

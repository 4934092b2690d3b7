/- Hellos: Put and Take of the program and of the document. -/
import Derived.Test.YthcjcgagbpfkpaaReadAt
namespace Go.Proofs.Ythcjcgagbpfkpaa
set_option linter.unusedSimpArgs false
set_option linter.unusedVariables false
open Go.RowKit
attribute [local go_sem ↓] Go.wp_at_zero Go.wp_at_succ

/-- 22.1: a hello's numbers and the error, by what the document's Take does. -/
def helloG (M : Int) (b : ByteArray) : (Nat × Nat × Nat) × Nat :=
  if (intT b M).2.2 ≠ 0 then ((0, 0, 0), 1)
  else if (intT (b.extract (intT b M).2.1 b.size) M).2.2 ≠ 0 then ((0, 0, 0), 1)
  else if (vtake (b.extract ((intT b M).2.1 + (intT (b.extract (intT b M).2.1 b.size) M).2.1) b.size)).2.2 ≠ 0 ∨
      (intT b M).2.1 + (intT (b.extract (intT b M).2.1 b.size) M).2.1 +
        (vtake (b.extract ((intT b M).2.1 + (intT (b.extract (intT b M).2.1 b.size) M).2.1) b.size)).2.1 ≠ b.size then ((0, 0, 0), 1)
  else (((intT b M).1, (intT (b.extract (intT b M).2.1 b.size) M).1,
      (vtake (b.extract ((intT b M).2.1 + (intT (b.extract (intT b M).2.1 b.size) M).2.1) b.size)).1), 0)

def helloT : ByteArray → (Nat × Nat × Nat) × Nat := helloG 2147483647

section
variable {M : Int} {b : ByteArray} {a i e c k f n j g : Nat}
theorem helloG_1 (h1 : intT b M = (a, i, e)) (he : e ≠ 0) : helloG M b = ((0, 0, 0), 1) := by
  unfold helloG
  simp only [h1]
  rw [if_pos he]
theorem helloG_2 (h1 : intT b M = (a, i, 0)) (h2 : intT (b.extract i b.size) M = (c, k, f)) (he : f ≠ 0) : helloG M b = ((0, 0, 0), 1) := by
  unfold helloG
  simp only [h1, h2]
  rw [if_neg (by simp), if_pos he]
theorem helloG_3 (h1 : intT b M = (a, i, 0)) (h2 : intT (b.extract i b.size) M = (c, k, 0)) (h3 : vtake (b.extract (i + k) b.size) = (n, j, g)) (he : g ≠ 0 ∨ i + k + j ≠ b.size) : helloG M b = ((0, 0, 0), 1) := by
  unfold helloG
  simp only [h1, h2, h3]
  rw [if_neg (by simp), if_neg (by simp), if_pos he]
theorem helloG_4 (h1 : intT b M = (a, i, 0)) (h2 : intT (b.extract i b.size) M = (c, k, 0)) (h3 : vtake (b.extract (i + k) b.size) = (n, j, 0)) (he : i + k + j = b.size) : helloG M b = ((a, c, n), 0) := by
  unfold helloG
  simp only [h1, h2, h3]
  rw [if_neg (by simp), if_neg (by simp), if_neg (by simp [he])]
end

/-- The reader's steps come to the same. -/
theorem helloG_chain (M : Int) (b : ByteArray) {v1 v2 v3 d : Nat} {s1 s2 s3 : Nat × Nat} (e1 : rdInt M b (0, 0) = (v1, s1)) (e2 : rdInt M b s1 = (v2, s2)) (e3 : rdNum b s2 = (v3, s3)) (e4 : rdDone b s3 = d) :
    (d ≠ 0 → helloG M b = ((0, 0, 0), 1)) ∧ (d = 0 → helloG M b = ((v1, v2, v3), 0)) := by
  have i1 := intT_ok b M
  obtain ⟨a, i, e, h1⟩ := trip_ex (intT b M)
  rw [h1] at i1
  have h1' : intT (b.extract 0 b.size) M = (a, i, e) := by rw [extract_all]; exact h1
  have z1 := fun he => helloG_1 h1 he
  by_cases he : e = 0
  · rw [he] at h1 h1'
    rw [rdInt_good h1', Nat.zero_add] at e1
    have i2 := intT_ok (b.extract i b.size) M
    obtain ⟨c, k, f, h2⟩ := trip_ex (intT (b.extract i b.size) M)
    rw [h2] at i2
    have z2 := fun he => helloG_2 h1 h2 he
    obtain ⟨q1, q2⟩ := Prod.mk.inj e1
    rw [← q2] at e2
    by_cases hf : f = 0
    · rw [hf] at h2
      rw [rdInt_good h2] at e2
      have i3 := vtake_ok (b.extract (i + k) b.size)
      obtain ⟨n, j, g, h3⟩ := trip_ex (vtake (b.extract (i + k) b.size))
      rw [h3] at i3
      have z3 := fun he => helloG_3 h1 h2 h3 he
      obtain ⟨q3, q4⟩ := Prod.mk.inj e2
      rw [← q4] at e3
      have hk1 := i1.k
      have hk2 := i2.k
      have hk3 := i3.k
      rw [ByteArray.size_extract] at hk2 hk3
      dsimp only at hk1 hk2 hk3
      by_cases hg : g = 0
      · rw [hg] at h3
        rw [rdNum_good h3] at e3
        obtain ⟨q5, q6⟩ := Prod.mk.inj e3
        rw [← q6] at e4
        by_cases h4 : i + k + j < b.size
        · rw [rdDone_left h4] at e4
          exact ⟨fun _ => z3 (.inr (by omega)), fun h => by omega⟩
        · rw [rdDone_all h4] at e4
          refine ⟨fun h => absurd e4.symm h, fun _ => ?_⟩
          rw [helloG_4 h1 h2 h3 (by omega), q1, q3, q5]
      · rw [rdNum_bad h3 hg] at e3
        obtain ⟨q5, q6⟩ := Prod.mk.inj e3
        rw [← q6, rdDone_err hg] at e4
        exact ⟨fun _ => z3 (.inl hg), fun h => absurd (e4.trans h) hg⟩
    · rw [rdInt_bad h2 hf] at e2
      obtain ⟨q3, q4⟩ := Prod.mk.inj e2
      rw [← q4, rdNum_err hf] at e3
      obtain ⟨q5, q6⟩ := Prod.mk.inj e3
      rw [← q6, rdDone_err hf] at e4
      exact ⟨fun _ => z2 hf, fun h => absurd (e4.trans h) hf⟩
  · rw [rdInt_bad h1' he] at e1
    obtain ⟨q1, q2⟩ := Prod.mk.inj e1
    rw [← q2, rdInt_err he] at e2
    obtain ⟨q3, q4⟩ := Prod.mk.inj e2
    rw [← q4, rdNum_err he] at e3
    obtain ⟨q5, q6⟩ := Prod.mk.inj e3
    rw [← q6, rdDone_err he] at e4
    exact ⟨fun _ => z1 he, fun h => absurd (e4.trans h) he⟩

theorem helloT_chain (b : ByteArray) {v1 v2 v3 d : Nat} {s1 s2 s3 : Nat × Nat} (e1 : rdInt 2147483647 b (0, 0) = (v1, s1)) (e2 : rdInt 2147483647 b s1 = (v2, s2)) (e3 : rdNum b s2 = (v3, s3)) (e4 : rdDone b s3 = d) :
    (d ≠ 0 → helloT b = ((0, 0, 0), 1)) ∧ (d = 0 → helloT b = ((v1, v2, v3), 0)) := helloG_chain _ b e1 e2 e3 e4

set_option maxRecDepth 4000 in
set_option maxHeartbeats 2000000 in
theorem helloTake_calls (b : ByteArray) (hb : b.size ≤ 1152921504606846976) {a c n er : Nat} (hT : helloT b = ((a, c, n), er)) (w : World) :
    Calls Try.prog 65 #[.string b] w fun e' w' => e' = .returned (.tuple #[.agg #[.int .i64 a, .int .i64 c, .int .u64 n], .int .i64 er]) ∧ Keeps [] w w' := by
  obtain ⟨v1, s1, e1⟩ := pair_ex (rdInt 2147483647 b (0, 0))
  obtain ⟨v2, s2, e2⟩ := pair_ex (rdInt 2147483647 b s1)
  obtain ⟨v3, s3, e3⟩ := pair_ex (rdNum b s2)
  obtain ⟨d, e4⟩ : ∃ d, rdDone b s3 = d := ⟨_, rfl⟩
  have hc := helloT_chain b e1 e2 e3 e4
  obtain ⟨p1, _⟩ := rdInt_in' e1 (RdIn.zero b)
  obtain ⟨p2, _⟩ := rdInt_in' e2 p1
  obtain ⟨p3, _⟩ := rdNum_in' e3 p2
  have C1 := Aside.mk (fun R w h => int_at hb (RdIn.zero b) R w h (by omega) e1)
  have C2 := Aside.mk (fun R w h => int_at hb p1 R w h (by omega) e2)
  have C3 := Aside.mk (fun R w h => num_at hb p2 R w h e3)
  have C4 := Aside.mk (fun R w h => done_at hb p3 R w h e4)
  clear e1 e2 e3 e4 p1 p2 p3
  by_cases hd : d = 0
  · have hE := hc.2 hd
    rw [hT] at hE
    simp only [Prod.mk.injEq] at hE
    obtain ⟨⟨rfl, rfl, rfl⟩, rfl⟩ := hE
    subst hd
    clear hc hT
    go_enter Try.func65, Try.ntmps65
    go_wp2_with fail
    refine (read_calls b _).mono ?_
    rintro e' w1 ⟨rfl, hr1, hk1⟩
    go_wp2_with fail
    have hr1' : Rd w1 (w.heap.size + 1) b (0, 0) := by simpa using hr1
    refine (C1.out _ _ hr1').mono ?_
    rintro e' w2 ⟨rfl, hr2, hk2⟩
    go_wp2_with fail
    refine (C2.out _ _ hr2).mono ?_
    rintro e' w3 ⟨rfl, hr3, hk3⟩
    go_wp2_with fail
    refine (C3.out _ _ hr3).mono ?_
    rintro e' w4 ⟨rfl, hr4, hk4⟩
    have hkB := (((hk1.more (L' := [w.heap.size + 1]) (by simp)).trans hk2 (by simp)).trans hk3 (by simp)).trans hk4 (by simp)
    have hB4 := hkB.whole (Whole.new _ _ _) (by simp)
    clear hk1 hk2 hk3 hk4 hr1 hr1' hr2 hr3
    go_wp2_with fail
    refine (C4.out _ _ (Whole.alloc hr4 _)).mono ?_
    rintro e' w5 ⟨rfl, hk5⟩
    have hB0 := hk5.whole (hB4.alloc _) (by simp)
    have hB1 := hk5.whole (Whole.new _ _ _) (by simp)
    have a0 : w5.cell? ⟨w.heap.size, 0, none⟩ = some (.int .i64 0) := hB0.cell 0
    have a1 : w5.cell? ⟨w.heap.size, 1, none⟩ = some (.int .i64 0) := hB0.cell 1
    have a2 : w5.cell? ⟨w.heap.size, 2, none⟩ = some (.int .u64 0) := hB0.cell 2
    have az := fun j => hB0.frozen j
    have b0 : w5.cell? ⟨w4.heap.size, 0, none⟩ = some (.int .i64 a) := hB1.cell 0
    have b1 : w5.cell? ⟨w4.heap.size, 1, none⟩ = some (.int .i64 c) := hB1.cell 1
    have b2 : w5.cell? ⟨w4.heap.size, 2, none⟩ = some (.int .u64 n) := hB1.cell 2
    have HF := Aside.mk (((hB0.set_ 0 (.int .i64 a)).set_ 1 (.int .i64 c)).set_ 2 (.int .u64 n))
    have HK := Aside.mk ((hkB.alloc (.cells #[.int .i64 a, .int .i64 c, .int .u64 n] 102)).nil_trans hk5)
    clear hB0 hB1 hB4 hr4
    go_wp2_with fail
    have f0 := HF.out.cell 0
    have f1 := HF.out.cell 1
    have f2 := HF.out.cell 2
    simp at f0 f1 f2
    refine bodyPost_ret (v := .tuple #[.agg #[.int .i64 a, .int .i64 c, .int .u64 n], .int .i64 0]) (by simp [results, Try.results65, go_sem, f0, f1, f2]) rfl ⟨rfl, ?_⟩
    have hk0 := ((Keeps.refl [] w).alloc (.cells #[.int .i64 0, .int .i64 0, .int .u64 0] 102))
    exact (((hk0.trans HK.out (by simp)).setCell (.inr (Nat.le_refl _)) _).setCell (.inr (Nat.le_refl _)) _).setCell (.inr (Nat.le_refl _)) _
  · have hE := hc.1 hd
    rw [hT] at hE
    simp only [Prod.mk.injEq] at hE
    obtain ⟨⟨rfl, rfl, rfl⟩, rfl⟩ := hE
    have q0 : ((d : Int) == 0) = false := by rw [beq_eq_false_iff_ne]; omega
    have q1 : ((d : Int) != 0) = true := by rw [bne_iff_ne]; omega
    clear hc hT
    go_enter Try.func65, Try.ntmps65
    go_wp2_with fail
    refine (read_calls b _).mono ?_
    rintro e' w1 ⟨rfl, hr1, hk1⟩
    go_wp2_with fail
    have hr1' : Rd w1 (w.heap.size + 1) b (0, 0) := by simpa using hr1
    refine (C1.out _ _ hr1').mono ?_
    rintro e' w2 ⟨rfl, hr2, hk2⟩
    go_wp2_with fail
    refine (C2.out _ _ hr2).mono ?_
    rintro e' w3 ⟨rfl, hr3, hk3⟩
    go_wp2_with fail
    refine (C3.out _ _ hr3).mono ?_
    rintro e' w4 ⟨rfl, hr4, hk4⟩
    have hkB := (((hk1.more (L' := [w.heap.size + 1]) (by simp)).trans hk2 (by simp)).trans hk3 (by simp)).trans hk4 (by simp)
    have hB4 := hkB.whole (Whole.new _ _ _) (by simp)
    clear hk1 hk2 hk3 hk4 hr1 hr1' hr2 hr3
    go_wp2_with fail
    refine (C4.out _ _ (Whole.alloc hr4 _)).mono ?_
    rintro e' w5 ⟨rfl, hk5⟩
    have hB0 := hk5.whole (hB4.alloc _) (by simp)
    have a0 : w5.cell? ⟨w.heap.size, 0, none⟩ = some (.int .i64 0) := hB0.cell 0
    have a1 : w5.cell? ⟨w.heap.size, 1, none⟩ = some (.int .i64 0) := hB0.cell 1
    have a2 : w5.cell? ⟨w.heap.size, 2, none⟩ = some (.int .u64 0) := hB0.cell 2
    have az := fun j => hB0.frozen j
    have HF := Aside.mk (((hB0.set_ 0 (.int .i64 0)).set_ 1 (.int .i64 0)).set_ 2 (.int .u64 0))
    have HK := Aside.mk ((hkB.alloc (.cells #[.int .i64 v1, .int .i64 v2, .int .u64 v3] 102)).nil_trans hk5)
    clear hB0 hB4 hr4
    go_wp2_with fail
    have f0 := HF.out.cell 0
    have f1 := HF.out.cell 1
    have f2 := HF.out.cell 2
    simp at f0 f1 f2
    refine bodyPost_ret (v := .tuple #[.agg #[.int .i64 0, .int .i64 0, .int .u64 0], .int .i64 1]) (by simp [results, Try.results65, go_sem, f0, f1, f2]) rfl ⟨rfl, ?_⟩
    have hk0 := ((Keeps.refl [] w).alloc (.cells #[.int .i64 0, .int .i64 0, .int .u64 0] 102))
    exact (((hk0.trans HK.out (by simp)).setCell (.inr (Nat.le_refl _)) _).setCell (.inr (Nat.le_refl _)) _).setCell (.inr (Nat.le_refl _)) _

end Go.Proofs.Ythcjcgagbpfkpaa

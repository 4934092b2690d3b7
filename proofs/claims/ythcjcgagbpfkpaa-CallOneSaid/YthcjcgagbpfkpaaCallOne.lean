/- CallOne: what is taken of bytes, as a call, a bind, a schema or a cancel, is put as those. -/
import Derived.Test.YthcjcgagbpfkpaaCallLaw
import Derived.Test.YthcjcgagbpfkpaaCallPuts
namespace Go.Proofs.Ythcjcgagbpfkpaa
set_option linter.unusedSimpArgs false
set_option linter.unusedVariables false
open Go.RowKit

theorem nz {e : Nat} (h : e ≠ 0) : ((e : Int) != 0) = true ∧ ((e : Int) == 0) = false := by
  rw [bne_iff_ne, beq_eq_false_iff_ne]
  omega

set_option maxRecDepth 8000 in
set_option maxHeartbeats 16000000 in
theorem callOne_walk (b : ByteArray) (hb0 : b.size ≤ 140737488351232) (w : World) :
    Calls Try.prog 21 #[.string b] w fun e' w' => e' = .returned (.bool true) ∧ Keeps [] w w' := by
  have hb : b.size ≤ 1152921504606846976 := by omega
  obtain ⟨⟨x1, x2, x3, x4⟩, r1, h1⟩ := pair_ex (callT b)
  obtain ⟨⟨y1, y2, y3, y4, y5⟩, r2, h2⟩ := pair_ex (bindT b)
  obtain ⟨⟨z1, z2⟩, r3, h3⟩ := pair_ex (schemaT b)
  obtain ⟨t1, r4, h4⟩ := pair_ex (cancelT b)
  have C1 := Aside.mk (fun w => takeCall_calls b hb h1 w)
  have C2 := Aside.mk (fun w => takeBind_calls b hb h2 w)
  have C3 := Aside.mk (fun w => takeSchema_calls b hb h3 w)
  have C4 := Aside.mk (fun w => takeCancel_calls b hb h4 w)
  have K1 : Aside (r1 = 0 → ∀ w, Calls Try.prog 23 #[.agg #[.int .u64 x1, .int .i64 x2, .int .i64 x3, .string x4]] w fun e w' => e = .returned (.string b) ∧ Keeps [] w w') := ⟨by
    intro h0 w
    subst h0
    obtain ⟨g1, g2, g3, g4, g5⟩ := callT_back h1
    rw [← g1]
    exact putCall_calls x1 x2 x3 x4 g2 (by omega) (by omega) (by omega) w⟩
  have K2 : Aside (r2 = 0 → ∀ w, Calls Try.prog 26 #[.agg #[.int .u64 y1, .int .i64 y2, .string y3, .string y4, .int .i64 y5]] w fun e w' => e = .returned (.string b) ∧ Keeps [] w w') := ⟨by
    intro h0 w
    subst h0
    obtain ⟨g1, g2, g3, g4, g5, g6⟩ := bindT_back h2
    rw [← g1]
    exact putBind_calls y1 y2 y3 y4 y5 g2 (by omega) (by omega) (by omega) (by omega) w⟩
  have K3 : Aside (r3 = 0 → ∀ w, Calls Try.prog 29 #[.int .u64 z1, .string z2] w fun e w' => e = .returned (.string b) ∧ Keeps [] w w') := ⟨by
    intro h0 w
    subst h0
    obtain ⟨g1, g2, g3⟩ := schemaT_back h3
    exact (putSchema_calls z1 z2 g2 (by omega) w).mono (by rw [g1]; exact fun _ _ h => h)⟩
  have K4 : Aside (r4 = 0 → ∀ w, Calls Try.prog 31 #[.int .u64 t1] w fun e w' => e = .returned (.string b) ∧ Keeps [] w w') := ⟨by
    intro h0 w
    subst h0
    obtain ⟨g1, g2⟩ := cancelT_back h4
    exact (putCancel_calls t1 g2 w).mono (by rw [g1]; exact fun _ _ h => h)⟩
  clear h1 h2 h3 h4
  by_cases q1 : r1 = 0
  · subst q1
    by_cases q2 : r2 = 0
    · subst q2
      by_cases q3 : r3 = 0
      · subst q3
        by_cases q4 : r4 = 0
        · subst q4
          go_enter Try.func21, Try.ntmps21
          go_wp2_with fail
          refine (C1.out _).mono ?_
          rintro e' u1 ⟨rfl, k1⟩
          go_wp2_with fail
          refine (C2.out _).mono ?_
          rintro e' u2 ⟨rfl, k2⟩
          go_wp2_with fail
          refine (C3.out _).mono ?_
          rintro e' u3 ⟨rfl, k3⟩
          go_wp2_with fail
          refine (C4.out _).mono ?_
          rintro e' u4 ⟨rfl, k4⟩
          have hA := k4.whole (k3.whole ((k2.whole (Whole.new _ _ _) (by simp)).alloc _) (by simp)) (by simp)
          have hB := k4.whole (k3.whole (Whole.new _ _ _) (by simp)) (by simp)
          have HK := Aside.mk (((((k1.alloc (.cells #[.int .u64 x1, .int .i64 x2, .int .i64 x3, .string x4] 28)).nil_trans k2).alloc (.cells #[.int .u64 y1, .int .i64 y2, .string y3, .string y4, .int .i64 y5] 32)).nil_trans k3).nil_trans k4)
          clear k1 k2 k3 k4
          have a0 : u4.cell? ⟨u1.heap.size, 0, none⟩ = some (.int .u64 x1) := hA.cell 0
          have a1 : u4.cell? ⟨u1.heap.size, 1, none⟩ = some (.int .i64 x2) := hA.cell 1
          have a2 : u4.cell? ⟨u1.heap.size, 2, none⟩ = some (.int .i64 x3) := hA.cell 2
          have a3 : u4.cell? ⟨u1.heap.size, 3, none⟩ = some (.string x4) := hA.cell 3
          go_wp2_with fail
          refine (K1.out (by simp) _).mono ?_
          rintro e' u5 ⟨rfl, k5⟩
          have hB5 := k5.whole hB (by simp)
          have b0 : u5.cell? ⟨u2.heap.size, 0, none⟩ = some (.int .u64 y1) := hB5.cell 0
          have b1 : u5.cell? ⟨u2.heap.size, 1, none⟩ = some (.int .i64 y2) := hB5.cell 1
          have b2 : u5.cell? ⟨u2.heap.size, 2, none⟩ = some (.string y3) := hB5.cell 2
          have b3 : u5.cell? ⟨u2.heap.size, 3, none⟩ = some (.string y4) := hB5.cell 3
          have b4 : u5.cell? ⟨u2.heap.size, 4, none⟩ = some (.int .i64 y5) := hB5.cell 4
          go_wp2_with fail
          refine (K2.out (by simp) _).mono ?_
          rintro e' u6 ⟨rfl, k6⟩
          go_wp2_with fail
          refine (K3.out (by simp) _).mono ?_
          rintro e' u7 ⟨rfl, k7⟩
          go_wp2_with fail
          refine (K4.out (by simp) _).mono ?_
          rintro e' u8 ⟨rfl, k8⟩
          go_wp2_with fail
          refine (awake34 _).mono ?_
          rintro e' u9 ⟨rfl, k9⟩
          go_wp2_with fail
          go_ret
          exact ⟨rfl, ((((HK.out.nil_trans k5).nil_trans k6).nil_trans k7).nil_trans k8).nil_trans k9⟩
        · obtain ⟨n4, m4⟩ := nz q4
          clear q4
          go_enter Try.func21, Try.ntmps21
          go_wp2_with fail
          refine (C1.out _).mono ?_
          rintro e' u1 ⟨rfl, k1⟩
          go_wp2_with fail
          refine (C2.out _).mono ?_
          rintro e' u2 ⟨rfl, k2⟩
          go_wp2_with fail
          refine (C3.out _).mono ?_
          rintro e' u3 ⟨rfl, k3⟩
          go_wp2_with fail
          refine (C4.out _).mono ?_
          rintro e' u4 ⟨rfl, k4⟩
          have hA := k4.whole (k3.whole ((k2.whole (Whole.new _ _ _) (by simp)).alloc _) (by simp)) (by simp)
          have hB := k4.whole (k3.whole (Whole.new _ _ _) (by simp)) (by simp)
          have HK := Aside.mk (((((k1.alloc (.cells #[.int .u64 x1, .int .i64 x2, .int .i64 x3, .string x4] 28)).nil_trans k2).alloc (.cells #[.int .u64 y1, .int .i64 y2, .string y3, .string y4, .int .i64 y5] 32)).nil_trans k3).nil_trans k4)
          clear k1 k2 k3 k4
          have a0 : u4.cell? ⟨u1.heap.size, 0, none⟩ = some (.int .u64 x1) := hA.cell 0
          have a1 : u4.cell? ⟨u1.heap.size, 1, none⟩ = some (.int .i64 x2) := hA.cell 1
          have a2 : u4.cell? ⟨u1.heap.size, 2, none⟩ = some (.int .i64 x3) := hA.cell 2
          have a3 : u4.cell? ⟨u1.heap.size, 3, none⟩ = some (.string x4) := hA.cell 3
          go_wp2_with fail
          refine (K1.out (by simp) _).mono ?_
          rintro e' u5 ⟨rfl, k5⟩
          have hB5 := k5.whole hB (by simp)
          have b0 : u5.cell? ⟨u2.heap.size, 0, none⟩ = some (.int .u64 y1) := hB5.cell 0
          have b1 : u5.cell? ⟨u2.heap.size, 1, none⟩ = some (.int .i64 y2) := hB5.cell 1
          have b2 : u5.cell? ⟨u2.heap.size, 2, none⟩ = some (.string y3) := hB5.cell 2
          have b3 : u5.cell? ⟨u2.heap.size, 3, none⟩ = some (.string y4) := hB5.cell 3
          have b4 : u5.cell? ⟨u2.heap.size, 4, none⟩ = some (.int .i64 y5) := hB5.cell 4
          go_wp2_with fail
          refine (K2.out (by simp) _).mono ?_
          rintro e' u6 ⟨rfl, k6⟩
          go_wp2_with fail
          refine (K3.out (by simp) _).mono ?_
          rintro e' u7 ⟨rfl, k7⟩
          go_wp2_with fail
          refine (awake34 _).mono ?_
          rintro e' u9 ⟨rfl, k9⟩
          go_wp2_with fail
          go_ret
          exact ⟨rfl, (((HK.out.nil_trans k5).nil_trans k6).nil_trans k7).nil_trans k9⟩
      · obtain ⟨n3, m3⟩ := nz q3
        clear q3
        by_cases q4 : r4 = 0
        · subst q4
          go_enter Try.func21, Try.ntmps21
          go_wp2_with fail
          refine (C1.out _).mono ?_
          rintro e' u1 ⟨rfl, k1⟩
          go_wp2_with fail
          refine (C2.out _).mono ?_
          rintro e' u2 ⟨rfl, k2⟩
          go_wp2_with fail
          refine (C3.out _).mono ?_
          rintro e' u3 ⟨rfl, k3⟩
          go_wp2_with fail
          refine (C4.out _).mono ?_
          rintro e' u4 ⟨rfl, k4⟩
          have hA := k4.whole (k3.whole ((k2.whole (Whole.new _ _ _) (by simp)).alloc _) (by simp)) (by simp)
          have hB := k4.whole (k3.whole (Whole.new _ _ _) (by simp)) (by simp)
          have HK := Aside.mk (((((k1.alloc (.cells #[.int .u64 x1, .int .i64 x2, .int .i64 x3, .string x4] 28)).nil_trans k2).alloc (.cells #[.int .u64 y1, .int .i64 y2, .string y3, .string y4, .int .i64 y5] 32)).nil_trans k3).nil_trans k4)
          clear k1 k2 k3 k4
          have a0 : u4.cell? ⟨u1.heap.size, 0, none⟩ = some (.int .u64 x1) := hA.cell 0
          have a1 : u4.cell? ⟨u1.heap.size, 1, none⟩ = some (.int .i64 x2) := hA.cell 1
          have a2 : u4.cell? ⟨u1.heap.size, 2, none⟩ = some (.int .i64 x3) := hA.cell 2
          have a3 : u4.cell? ⟨u1.heap.size, 3, none⟩ = some (.string x4) := hA.cell 3
          go_wp2_with fail
          refine (K1.out (by simp) _).mono ?_
          rintro e' u5 ⟨rfl, k5⟩
          have hB5 := k5.whole hB (by simp)
          have b0 : u5.cell? ⟨u2.heap.size, 0, none⟩ = some (.int .u64 y1) := hB5.cell 0
          have b1 : u5.cell? ⟨u2.heap.size, 1, none⟩ = some (.int .i64 y2) := hB5.cell 1
          have b2 : u5.cell? ⟨u2.heap.size, 2, none⟩ = some (.string y3) := hB5.cell 2
          have b3 : u5.cell? ⟨u2.heap.size, 3, none⟩ = some (.string y4) := hB5.cell 3
          have b4 : u5.cell? ⟨u2.heap.size, 4, none⟩ = some (.int .i64 y5) := hB5.cell 4
          go_wp2_with fail
          refine (K2.out (by simp) _).mono ?_
          rintro e' u6 ⟨rfl, k6⟩
          go_wp2_with fail
          refine (K4.out (by simp) _).mono ?_
          rintro e' u8 ⟨rfl, k8⟩
          go_wp2_with fail
          refine (awake34 _).mono ?_
          rintro e' u9 ⟨rfl, k9⟩
          go_wp2_with fail
          go_ret
          exact ⟨rfl, (((HK.out.nil_trans k5).nil_trans k6).nil_trans k8).nil_trans k9⟩
        · obtain ⟨n4, m4⟩ := nz q4
          clear q4
          go_enter Try.func21, Try.ntmps21
          go_wp2_with fail
          refine (C1.out _).mono ?_
          rintro e' u1 ⟨rfl, k1⟩
          go_wp2_with fail
          refine (C2.out _).mono ?_
          rintro e' u2 ⟨rfl, k2⟩
          go_wp2_with fail
          refine (C3.out _).mono ?_
          rintro e' u3 ⟨rfl, k3⟩
          go_wp2_with fail
          refine (C4.out _).mono ?_
          rintro e' u4 ⟨rfl, k4⟩
          have hA := k4.whole (k3.whole ((k2.whole (Whole.new _ _ _) (by simp)).alloc _) (by simp)) (by simp)
          have hB := k4.whole (k3.whole (Whole.new _ _ _) (by simp)) (by simp)
          have HK := Aside.mk (((((k1.alloc (.cells #[.int .u64 x1, .int .i64 x2, .int .i64 x3, .string x4] 28)).nil_trans k2).alloc (.cells #[.int .u64 y1, .int .i64 y2, .string y3, .string y4, .int .i64 y5] 32)).nil_trans k3).nil_trans k4)
          clear k1 k2 k3 k4
          have a0 : u4.cell? ⟨u1.heap.size, 0, none⟩ = some (.int .u64 x1) := hA.cell 0
          have a1 : u4.cell? ⟨u1.heap.size, 1, none⟩ = some (.int .i64 x2) := hA.cell 1
          have a2 : u4.cell? ⟨u1.heap.size, 2, none⟩ = some (.int .i64 x3) := hA.cell 2
          have a3 : u4.cell? ⟨u1.heap.size, 3, none⟩ = some (.string x4) := hA.cell 3
          go_wp2_with fail
          refine (K1.out (by simp) _).mono ?_
          rintro e' u5 ⟨rfl, k5⟩
          have hB5 := k5.whole hB (by simp)
          have b0 : u5.cell? ⟨u2.heap.size, 0, none⟩ = some (.int .u64 y1) := hB5.cell 0
          have b1 : u5.cell? ⟨u2.heap.size, 1, none⟩ = some (.int .i64 y2) := hB5.cell 1
          have b2 : u5.cell? ⟨u2.heap.size, 2, none⟩ = some (.string y3) := hB5.cell 2
          have b3 : u5.cell? ⟨u2.heap.size, 3, none⟩ = some (.string y4) := hB5.cell 3
          have b4 : u5.cell? ⟨u2.heap.size, 4, none⟩ = some (.int .i64 y5) := hB5.cell 4
          go_wp2_with fail
          refine (K2.out (by simp) _).mono ?_
          rintro e' u6 ⟨rfl, k6⟩
          go_wp2_with fail
          refine (awake34 _).mono ?_
          rintro e' u9 ⟨rfl, k9⟩
          go_wp2_with fail
          go_ret
          exact ⟨rfl, ((HK.out.nil_trans k5).nil_trans k6).nil_trans k9⟩
    · obtain ⟨n2, m2⟩ := nz q2
      clear q2
      by_cases q3 : r3 = 0
      · subst q3
        by_cases q4 : r4 = 0
        · subst q4
          go_enter Try.func21, Try.ntmps21
          go_wp2_with fail
          refine (C1.out _).mono ?_
          rintro e' u1 ⟨rfl, k1⟩
          go_wp2_with fail
          refine (C2.out _).mono ?_
          rintro e' u2 ⟨rfl, k2⟩
          go_wp2_with fail
          refine (C3.out _).mono ?_
          rintro e' u3 ⟨rfl, k3⟩
          go_wp2_with fail
          refine (C4.out _).mono ?_
          rintro e' u4 ⟨rfl, k4⟩
          have hA := k4.whole (k3.whole ((k2.whole (Whole.new _ _ _) (by simp)).alloc _) (by simp)) (by simp)
          have hB := k4.whole (k3.whole (Whole.new _ _ _) (by simp)) (by simp)
          have HK := Aside.mk (((((k1.alloc (.cells #[.int .u64 x1, .int .i64 x2, .int .i64 x3, .string x4] 28)).nil_trans k2).alloc (.cells #[.int .u64 y1, .int .i64 y2, .string y3, .string y4, .int .i64 y5] 32)).nil_trans k3).nil_trans k4)
          clear k1 k2 k3 k4
          have a0 : u4.cell? ⟨u1.heap.size, 0, none⟩ = some (.int .u64 x1) := hA.cell 0
          have a1 : u4.cell? ⟨u1.heap.size, 1, none⟩ = some (.int .i64 x2) := hA.cell 1
          have a2 : u4.cell? ⟨u1.heap.size, 2, none⟩ = some (.int .i64 x3) := hA.cell 2
          have a3 : u4.cell? ⟨u1.heap.size, 3, none⟩ = some (.string x4) := hA.cell 3
          go_wp2_with fail
          refine (K1.out (by simp) _).mono ?_
          rintro e' u5 ⟨rfl, k5⟩
          go_wp2_with fail
          refine (K3.out (by simp) _).mono ?_
          rintro e' u7 ⟨rfl, k7⟩
          go_wp2_with fail
          refine (K4.out (by simp) _).mono ?_
          rintro e' u8 ⟨rfl, k8⟩
          go_wp2_with fail
          refine (awake34 _).mono ?_
          rintro e' u9 ⟨rfl, k9⟩
          go_wp2_with fail
          go_ret
          exact ⟨rfl, (((HK.out.nil_trans k5).nil_trans k7).nil_trans k8).nil_trans k9⟩
        · obtain ⟨n4, m4⟩ := nz q4
          clear q4
          go_enter Try.func21, Try.ntmps21
          go_wp2_with fail
          refine (C1.out _).mono ?_
          rintro e' u1 ⟨rfl, k1⟩
          go_wp2_with fail
          refine (C2.out _).mono ?_
          rintro e' u2 ⟨rfl, k2⟩
          go_wp2_with fail
          refine (C3.out _).mono ?_
          rintro e' u3 ⟨rfl, k3⟩
          go_wp2_with fail
          refine (C4.out _).mono ?_
          rintro e' u4 ⟨rfl, k4⟩
          have hA := k4.whole (k3.whole ((k2.whole (Whole.new _ _ _) (by simp)).alloc _) (by simp)) (by simp)
          have hB := k4.whole (k3.whole (Whole.new _ _ _) (by simp)) (by simp)
          have HK := Aside.mk (((((k1.alloc (.cells #[.int .u64 x1, .int .i64 x2, .int .i64 x3, .string x4] 28)).nil_trans k2).alloc (.cells #[.int .u64 y1, .int .i64 y2, .string y3, .string y4, .int .i64 y5] 32)).nil_trans k3).nil_trans k4)
          clear k1 k2 k3 k4
          have a0 : u4.cell? ⟨u1.heap.size, 0, none⟩ = some (.int .u64 x1) := hA.cell 0
          have a1 : u4.cell? ⟨u1.heap.size, 1, none⟩ = some (.int .i64 x2) := hA.cell 1
          have a2 : u4.cell? ⟨u1.heap.size, 2, none⟩ = some (.int .i64 x3) := hA.cell 2
          have a3 : u4.cell? ⟨u1.heap.size, 3, none⟩ = some (.string x4) := hA.cell 3
          go_wp2_with fail
          refine (K1.out (by simp) _).mono ?_
          rintro e' u5 ⟨rfl, k5⟩
          go_wp2_with fail
          refine (K3.out (by simp) _).mono ?_
          rintro e' u7 ⟨rfl, k7⟩
          go_wp2_with fail
          refine (awake34 _).mono ?_
          rintro e' u9 ⟨rfl, k9⟩
          go_wp2_with fail
          go_ret
          exact ⟨rfl, ((HK.out.nil_trans k5).nil_trans k7).nil_trans k9⟩
      · obtain ⟨n3, m3⟩ := nz q3
        clear q3
        by_cases q4 : r4 = 0
        · subst q4
          go_enter Try.func21, Try.ntmps21
          go_wp2_with fail
          refine (C1.out _).mono ?_
          rintro e' u1 ⟨rfl, k1⟩
          go_wp2_with fail
          refine (C2.out _).mono ?_
          rintro e' u2 ⟨rfl, k2⟩
          go_wp2_with fail
          refine (C3.out _).mono ?_
          rintro e' u3 ⟨rfl, k3⟩
          go_wp2_with fail
          refine (C4.out _).mono ?_
          rintro e' u4 ⟨rfl, k4⟩
          have hA := k4.whole (k3.whole ((k2.whole (Whole.new _ _ _) (by simp)).alloc _) (by simp)) (by simp)
          have hB := k4.whole (k3.whole (Whole.new _ _ _) (by simp)) (by simp)
          have HK := Aside.mk (((((k1.alloc (.cells #[.int .u64 x1, .int .i64 x2, .int .i64 x3, .string x4] 28)).nil_trans k2).alloc (.cells #[.int .u64 y1, .int .i64 y2, .string y3, .string y4, .int .i64 y5] 32)).nil_trans k3).nil_trans k4)
          clear k1 k2 k3 k4
          have a0 : u4.cell? ⟨u1.heap.size, 0, none⟩ = some (.int .u64 x1) := hA.cell 0
          have a1 : u4.cell? ⟨u1.heap.size, 1, none⟩ = some (.int .i64 x2) := hA.cell 1
          have a2 : u4.cell? ⟨u1.heap.size, 2, none⟩ = some (.int .i64 x3) := hA.cell 2
          have a3 : u4.cell? ⟨u1.heap.size, 3, none⟩ = some (.string x4) := hA.cell 3
          go_wp2_with fail
          refine (K1.out (by simp) _).mono ?_
          rintro e' u5 ⟨rfl, k5⟩
          go_wp2_with fail
          refine (K4.out (by simp) _).mono ?_
          rintro e' u8 ⟨rfl, k8⟩
          go_wp2_with fail
          refine (awake34 _).mono ?_
          rintro e' u9 ⟨rfl, k9⟩
          go_wp2_with fail
          go_ret
          exact ⟨rfl, ((HK.out.nil_trans k5).nil_trans k8).nil_trans k9⟩
        · obtain ⟨n4, m4⟩ := nz q4
          clear q4
          go_enter Try.func21, Try.ntmps21
          go_wp2_with fail
          refine (C1.out _).mono ?_
          rintro e' u1 ⟨rfl, k1⟩
          go_wp2_with fail
          refine (C2.out _).mono ?_
          rintro e' u2 ⟨rfl, k2⟩
          go_wp2_with fail
          refine (C3.out _).mono ?_
          rintro e' u3 ⟨rfl, k3⟩
          go_wp2_with fail
          refine (C4.out _).mono ?_
          rintro e' u4 ⟨rfl, k4⟩
          have hA := k4.whole (k3.whole ((k2.whole (Whole.new _ _ _) (by simp)).alloc _) (by simp)) (by simp)
          have hB := k4.whole (k3.whole (Whole.new _ _ _) (by simp)) (by simp)
          have HK := Aside.mk (((((k1.alloc (.cells #[.int .u64 x1, .int .i64 x2, .int .i64 x3, .string x4] 28)).nil_trans k2).alloc (.cells #[.int .u64 y1, .int .i64 y2, .string y3, .string y4, .int .i64 y5] 32)).nil_trans k3).nil_trans k4)
          clear k1 k2 k3 k4
          have a0 : u4.cell? ⟨u1.heap.size, 0, none⟩ = some (.int .u64 x1) := hA.cell 0
          have a1 : u4.cell? ⟨u1.heap.size, 1, none⟩ = some (.int .i64 x2) := hA.cell 1
          have a2 : u4.cell? ⟨u1.heap.size, 2, none⟩ = some (.int .i64 x3) := hA.cell 2
          have a3 : u4.cell? ⟨u1.heap.size, 3, none⟩ = some (.string x4) := hA.cell 3
          go_wp2_with fail
          refine (K1.out (by simp) _).mono ?_
          rintro e' u5 ⟨rfl, k5⟩
          go_wp2_with fail
          refine (awake34 _).mono ?_
          rintro e' u9 ⟨rfl, k9⟩
          go_wp2_with fail
          go_ret
          exact ⟨rfl, (HK.out.nil_trans k5).nil_trans k9⟩
  · obtain ⟨n1, m1⟩ := nz q1
    clear q1
    by_cases q2 : r2 = 0
    · subst q2
      by_cases q3 : r3 = 0
      · subst q3
        by_cases q4 : r4 = 0
        · subst q4
          go_enter Try.func21, Try.ntmps21
          go_wp2_with fail
          refine (C1.out _).mono ?_
          rintro e' u1 ⟨rfl, k1⟩
          go_wp2_with fail
          refine (C2.out _).mono ?_
          rintro e' u2 ⟨rfl, k2⟩
          go_wp2_with fail
          refine (C3.out _).mono ?_
          rintro e' u3 ⟨rfl, k3⟩
          go_wp2_with fail
          refine (C4.out _).mono ?_
          rintro e' u4 ⟨rfl, k4⟩
          have hA := k4.whole (k3.whole ((k2.whole (Whole.new _ _ _) (by simp)).alloc _) (by simp)) (by simp)
          have hB := k4.whole (k3.whole (Whole.new _ _ _) (by simp)) (by simp)
          have HK := Aside.mk (((((k1.alloc (.cells #[.int .u64 x1, .int .i64 x2, .int .i64 x3, .string x4] 28)).nil_trans k2).alloc (.cells #[.int .u64 y1, .int .i64 y2, .string y3, .string y4, .int .i64 y5] 32)).nil_trans k3).nil_trans k4)
          clear k1 k2 k3 k4
          have b0 : u4.cell? ⟨u2.heap.size, 0, none⟩ = some (.int .u64 y1) := hB.cell 0
          have b1 : u4.cell? ⟨u2.heap.size, 1, none⟩ = some (.int .i64 y2) := hB.cell 1
          have b2 : u4.cell? ⟨u2.heap.size, 2, none⟩ = some (.string y3) := hB.cell 2
          have b3 : u4.cell? ⟨u2.heap.size, 3, none⟩ = some (.string y4) := hB.cell 3
          have b4 : u4.cell? ⟨u2.heap.size, 4, none⟩ = some (.int .i64 y5) := hB.cell 4
          go_wp2_with fail
          refine (K2.out (by simp) _).mono ?_
          rintro e' u6 ⟨rfl, k6⟩
          go_wp2_with fail
          refine (K3.out (by simp) _).mono ?_
          rintro e' u7 ⟨rfl, k7⟩
          go_wp2_with fail
          refine (K4.out (by simp) _).mono ?_
          rintro e' u8 ⟨rfl, k8⟩
          go_wp2_with fail
          refine (awake34 _).mono ?_
          rintro e' u9 ⟨rfl, k9⟩
          go_wp2_with fail
          go_ret
          exact ⟨rfl, (((HK.out.nil_trans k6).nil_trans k7).nil_trans k8).nil_trans k9⟩
        · obtain ⟨n4, m4⟩ := nz q4
          clear q4
          go_enter Try.func21, Try.ntmps21
          go_wp2_with fail
          refine (C1.out _).mono ?_
          rintro e' u1 ⟨rfl, k1⟩
          go_wp2_with fail
          refine (C2.out _).mono ?_
          rintro e' u2 ⟨rfl, k2⟩
          go_wp2_with fail
          refine (C3.out _).mono ?_
          rintro e' u3 ⟨rfl, k3⟩
          go_wp2_with fail
          refine (C4.out _).mono ?_
          rintro e' u4 ⟨rfl, k4⟩
          have hA := k4.whole (k3.whole ((k2.whole (Whole.new _ _ _) (by simp)).alloc _) (by simp)) (by simp)
          have hB := k4.whole (k3.whole (Whole.new _ _ _) (by simp)) (by simp)
          have HK := Aside.mk (((((k1.alloc (.cells #[.int .u64 x1, .int .i64 x2, .int .i64 x3, .string x4] 28)).nil_trans k2).alloc (.cells #[.int .u64 y1, .int .i64 y2, .string y3, .string y4, .int .i64 y5] 32)).nil_trans k3).nil_trans k4)
          clear k1 k2 k3 k4
          have b0 : u4.cell? ⟨u2.heap.size, 0, none⟩ = some (.int .u64 y1) := hB.cell 0
          have b1 : u4.cell? ⟨u2.heap.size, 1, none⟩ = some (.int .i64 y2) := hB.cell 1
          have b2 : u4.cell? ⟨u2.heap.size, 2, none⟩ = some (.string y3) := hB.cell 2
          have b3 : u4.cell? ⟨u2.heap.size, 3, none⟩ = some (.string y4) := hB.cell 3
          have b4 : u4.cell? ⟨u2.heap.size, 4, none⟩ = some (.int .i64 y5) := hB.cell 4
          go_wp2_with fail
          refine (K2.out (by simp) _).mono ?_
          rintro e' u6 ⟨rfl, k6⟩
          go_wp2_with fail
          refine (K3.out (by simp) _).mono ?_
          rintro e' u7 ⟨rfl, k7⟩
          go_wp2_with fail
          refine (awake34 _).mono ?_
          rintro e' u9 ⟨rfl, k9⟩
          go_wp2_with fail
          go_ret
          exact ⟨rfl, ((HK.out.nil_trans k6).nil_trans k7).nil_trans k9⟩
      · obtain ⟨n3, m3⟩ := nz q3
        clear q3
        by_cases q4 : r4 = 0
        · subst q4
          go_enter Try.func21, Try.ntmps21
          go_wp2_with fail
          refine (C1.out _).mono ?_
          rintro e' u1 ⟨rfl, k1⟩
          go_wp2_with fail
          refine (C2.out _).mono ?_
          rintro e' u2 ⟨rfl, k2⟩
          go_wp2_with fail
          refine (C3.out _).mono ?_
          rintro e' u3 ⟨rfl, k3⟩
          go_wp2_with fail
          refine (C4.out _).mono ?_
          rintro e' u4 ⟨rfl, k4⟩
          have hA := k4.whole (k3.whole ((k2.whole (Whole.new _ _ _) (by simp)).alloc _) (by simp)) (by simp)
          have hB := k4.whole (k3.whole (Whole.new _ _ _) (by simp)) (by simp)
          have HK := Aside.mk (((((k1.alloc (.cells #[.int .u64 x1, .int .i64 x2, .int .i64 x3, .string x4] 28)).nil_trans k2).alloc (.cells #[.int .u64 y1, .int .i64 y2, .string y3, .string y4, .int .i64 y5] 32)).nil_trans k3).nil_trans k4)
          clear k1 k2 k3 k4
          have b0 : u4.cell? ⟨u2.heap.size, 0, none⟩ = some (.int .u64 y1) := hB.cell 0
          have b1 : u4.cell? ⟨u2.heap.size, 1, none⟩ = some (.int .i64 y2) := hB.cell 1
          have b2 : u4.cell? ⟨u2.heap.size, 2, none⟩ = some (.string y3) := hB.cell 2
          have b3 : u4.cell? ⟨u2.heap.size, 3, none⟩ = some (.string y4) := hB.cell 3
          have b4 : u4.cell? ⟨u2.heap.size, 4, none⟩ = some (.int .i64 y5) := hB.cell 4
          go_wp2_with fail
          refine (K2.out (by simp) _).mono ?_
          rintro e' u6 ⟨rfl, k6⟩
          go_wp2_with fail
          refine (K4.out (by simp) _).mono ?_
          rintro e' u8 ⟨rfl, k8⟩
          go_wp2_with fail
          refine (awake34 _).mono ?_
          rintro e' u9 ⟨rfl, k9⟩
          go_wp2_with fail
          go_ret
          exact ⟨rfl, ((HK.out.nil_trans k6).nil_trans k8).nil_trans k9⟩
        · obtain ⟨n4, m4⟩ := nz q4
          clear q4
          go_enter Try.func21, Try.ntmps21
          go_wp2_with fail
          refine (C1.out _).mono ?_
          rintro e' u1 ⟨rfl, k1⟩
          go_wp2_with fail
          refine (C2.out _).mono ?_
          rintro e' u2 ⟨rfl, k2⟩
          go_wp2_with fail
          refine (C3.out _).mono ?_
          rintro e' u3 ⟨rfl, k3⟩
          go_wp2_with fail
          refine (C4.out _).mono ?_
          rintro e' u4 ⟨rfl, k4⟩
          have hA := k4.whole (k3.whole ((k2.whole (Whole.new _ _ _) (by simp)).alloc _) (by simp)) (by simp)
          have hB := k4.whole (k3.whole (Whole.new _ _ _) (by simp)) (by simp)
          have HK := Aside.mk (((((k1.alloc (.cells #[.int .u64 x1, .int .i64 x2, .int .i64 x3, .string x4] 28)).nil_trans k2).alloc (.cells #[.int .u64 y1, .int .i64 y2, .string y3, .string y4, .int .i64 y5] 32)).nil_trans k3).nil_trans k4)
          clear k1 k2 k3 k4
          have b0 : u4.cell? ⟨u2.heap.size, 0, none⟩ = some (.int .u64 y1) := hB.cell 0
          have b1 : u4.cell? ⟨u2.heap.size, 1, none⟩ = some (.int .i64 y2) := hB.cell 1
          have b2 : u4.cell? ⟨u2.heap.size, 2, none⟩ = some (.string y3) := hB.cell 2
          have b3 : u4.cell? ⟨u2.heap.size, 3, none⟩ = some (.string y4) := hB.cell 3
          have b4 : u4.cell? ⟨u2.heap.size, 4, none⟩ = some (.int .i64 y5) := hB.cell 4
          go_wp2_with fail
          refine (K2.out (by simp) _).mono ?_
          rintro e' u6 ⟨rfl, k6⟩
          go_wp2_with fail
          refine (awake34 _).mono ?_
          rintro e' u9 ⟨rfl, k9⟩
          go_wp2_with fail
          go_ret
          exact ⟨rfl, (HK.out.nil_trans k6).nil_trans k9⟩
    · obtain ⟨n2, m2⟩ := nz q2
      clear q2
      by_cases q3 : r3 = 0
      · subst q3
        by_cases q4 : r4 = 0
        · subst q4
          go_enter Try.func21, Try.ntmps21
          go_wp2_with fail
          refine (C1.out _).mono ?_
          rintro e' u1 ⟨rfl, k1⟩
          go_wp2_with fail
          refine (C2.out _).mono ?_
          rintro e' u2 ⟨rfl, k2⟩
          go_wp2_with fail
          refine (C3.out _).mono ?_
          rintro e' u3 ⟨rfl, k3⟩
          go_wp2_with fail
          refine (C4.out _).mono ?_
          rintro e' u4 ⟨rfl, k4⟩
          have hA := k4.whole (k3.whole ((k2.whole (Whole.new _ _ _) (by simp)).alloc _) (by simp)) (by simp)
          have hB := k4.whole (k3.whole (Whole.new _ _ _) (by simp)) (by simp)
          have HK := Aside.mk (((((k1.alloc (.cells #[.int .u64 x1, .int .i64 x2, .int .i64 x3, .string x4] 28)).nil_trans k2).alloc (.cells #[.int .u64 y1, .int .i64 y2, .string y3, .string y4, .int .i64 y5] 32)).nil_trans k3).nil_trans k4)
          clear k1 k2 k3 k4
          go_wp2_with fail
          refine (K3.out (by simp) _).mono ?_
          rintro e' u7 ⟨rfl, k7⟩
          go_wp2_with fail
          refine (K4.out (by simp) _).mono ?_
          rintro e' u8 ⟨rfl, k8⟩
          go_wp2_with fail
          refine (awake34 _).mono ?_
          rintro e' u9 ⟨rfl, k9⟩
          go_wp2_with fail
          go_ret
          exact ⟨rfl, ((HK.out.nil_trans k7).nil_trans k8).nil_trans k9⟩
        · obtain ⟨n4, m4⟩ := nz q4
          clear q4
          go_enter Try.func21, Try.ntmps21
          go_wp2_with fail
          refine (C1.out _).mono ?_
          rintro e' u1 ⟨rfl, k1⟩
          go_wp2_with fail
          refine (C2.out _).mono ?_
          rintro e' u2 ⟨rfl, k2⟩
          go_wp2_with fail
          refine (C3.out _).mono ?_
          rintro e' u3 ⟨rfl, k3⟩
          go_wp2_with fail
          refine (C4.out _).mono ?_
          rintro e' u4 ⟨rfl, k4⟩
          have hA := k4.whole (k3.whole ((k2.whole (Whole.new _ _ _) (by simp)).alloc _) (by simp)) (by simp)
          have hB := k4.whole (k3.whole (Whole.new _ _ _) (by simp)) (by simp)
          have HK := Aside.mk (((((k1.alloc (.cells #[.int .u64 x1, .int .i64 x2, .int .i64 x3, .string x4] 28)).nil_trans k2).alloc (.cells #[.int .u64 y1, .int .i64 y2, .string y3, .string y4, .int .i64 y5] 32)).nil_trans k3).nil_trans k4)
          clear k1 k2 k3 k4
          go_wp2_with fail
          refine (K3.out (by simp) _).mono ?_
          rintro e' u7 ⟨rfl, k7⟩
          go_wp2_with fail
          refine (awake34 _).mono ?_
          rintro e' u9 ⟨rfl, k9⟩
          go_wp2_with fail
          go_ret
          exact ⟨rfl, (HK.out.nil_trans k7).nil_trans k9⟩
      · obtain ⟨n3, m3⟩ := nz q3
        clear q3
        by_cases q4 : r4 = 0
        · subst q4
          go_enter Try.func21, Try.ntmps21
          go_wp2_with fail
          refine (C1.out _).mono ?_
          rintro e' u1 ⟨rfl, k1⟩
          go_wp2_with fail
          refine (C2.out _).mono ?_
          rintro e' u2 ⟨rfl, k2⟩
          go_wp2_with fail
          refine (C3.out _).mono ?_
          rintro e' u3 ⟨rfl, k3⟩
          go_wp2_with fail
          refine (C4.out _).mono ?_
          rintro e' u4 ⟨rfl, k4⟩
          have hA := k4.whole (k3.whole ((k2.whole (Whole.new _ _ _) (by simp)).alloc _) (by simp)) (by simp)
          have hB := k4.whole (k3.whole (Whole.new _ _ _) (by simp)) (by simp)
          have HK := Aside.mk (((((k1.alloc (.cells #[.int .u64 x1, .int .i64 x2, .int .i64 x3, .string x4] 28)).nil_trans k2).alloc (.cells #[.int .u64 y1, .int .i64 y2, .string y3, .string y4, .int .i64 y5] 32)).nil_trans k3).nil_trans k4)
          clear k1 k2 k3 k4
          go_wp2_with fail
          refine (K4.out (by simp) _).mono ?_
          rintro e' u8 ⟨rfl, k8⟩
          go_wp2_with fail
          refine (awake34 _).mono ?_
          rintro e' u9 ⟨rfl, k9⟩
          go_wp2_with fail
          go_ret
          exact ⟨rfl, (HK.out.nil_trans k8).nil_trans k9⟩
        · obtain ⟨n4, m4⟩ := nz q4
          clear q4
          go_enter Try.func21, Try.ntmps21
          go_wp2_with fail
          refine (C1.out _).mono ?_
          rintro e' u1 ⟨rfl, k1⟩
          go_wp2_with fail
          refine (C2.out _).mono ?_
          rintro e' u2 ⟨rfl, k2⟩
          go_wp2_with fail
          refine (C3.out _).mono ?_
          rintro e' u3 ⟨rfl, k3⟩
          go_wp2_with fail
          refine (C4.out _).mono ?_
          rintro e' u4 ⟨rfl, k4⟩
          have hA := k4.whole (k3.whole ((k2.whole (Whole.new _ _ _) (by simp)).alloc _) (by simp)) (by simp)
          have hB := k4.whole (k3.whole (Whole.new _ _ _) (by simp)) (by simp)
          have HK := Aside.mk (((((k1.alloc (.cells #[.int .u64 x1, .int .i64 x2, .int .i64 x3, .string x4] 28)).nil_trans k2).alloc (.cells #[.int .u64 y1, .int .i64 y2, .string y3, .string y4, .int .i64 y5] 32)).nil_trans k3).nil_trans k4)
          clear k1 k2 k3 k4
          go_wp2_with fail
          refine (awake34 _).mono ?_
          rintro e' u9 ⟨rfl, k9⟩
          go_wp2_with fail
          go_ret
          exact ⟨rfl, HK.out.nil_trans k9⟩

end Go.Proofs.Ythcjcgagbpfkpaa

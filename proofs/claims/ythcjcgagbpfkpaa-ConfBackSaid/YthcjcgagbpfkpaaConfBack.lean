/- ConfBack: what is put is taken, what is taken may be, and is put so, and a configuration that may be is that of its numbers. -/
import Derived.Test.YthcjcgagbpfkpaaConfBackLaw
namespace Go.Proofs.Ythcjcgagbpfkpaa
set_option linter.unusedVariables false
set_option linter.unusedSimpArgs false
open Go.RowKit

set_option maxRecDepth 100000 in
set_option maxHeartbeats 8000000 in
theorem confBack_go (c x y z : Nat → Int) (ck er : Int) (s b : ByteArray) (w : World)
    (h45 : ∀ w, Calls Try.prog 45 #[.agg (confCells c)] w fun e w' => e = .returned (.tuple #[.string s, .int .i64 ck]) ∧ Keeps [] w w')
    (h47s : ∀ w, Calls Try.prog 47 #[.string s] w fun e w' => e = .returned (.tuple #[.agg (confCells x), .int .i64 ck]) ∧ Keeps [] w w')
    (h60 : ∀ g cap w, g < w.heap.size → (∀ i, i < 9 → w.cell? ⟨g, i, none⟩ = some (.int .i64 (c i))) → Calls Try.prog 60 #[.slice (some ⟨g, 0, none⟩) 9 cap] w fun e w' => e = .returned (.tuple #[.agg (confCells y), .int .i64 ck]) ∧ Keeps [] w w')
    (h62 : ∀ w, Calls Try.prog 62 #[.agg (confCells c)] w fun e w' => e = .returned (.int .i64 ck) ∧ Keeps [] w w')
    (h47b : ∀ w, Calls Try.prog 47 #[.string b] w fun e w' => e = .returned (.tuple #[.agg (confCells z), .int .i64 er]) ∧ Keeps [] w w')
    (hcase : (0 = ck ∧ confCells x = confCells c ∧ confCells y = confCells c) ∨ 1 = ck)
    (hback : (1 = er ∧ confCells z = confCells fun _ => 0) ∨
      (0 = er ∧ 1040 ≤ z 0 ∧ (∀ w, Calls Try.prog 45 #[.agg (confCells z)] w fun e w' => e = .returned (.tuple #[.string b, .int .i64 0]) ∧ Keeps [] w w') ∧
        (∀ w, Calls Try.prog 62 #[.agg (confCells z)] w fun e w' => e = .returned (.int .i64 0) ∧ Keeps [] w w'))) :
    Calls Try.prog 10 #[.agg (confCells c), .string b] w fun e w' => e = .returned (.bool true) ∧ Keeps [] w w' := by
  have C45 := Aside.mk h45
  have C47s := Aside.mk h47s
  have C60 := Aside.mk h60
  have C62 := Aside.mk h62
  have C47b := Aside.mk h47b
  have HCASE := Aside.mk hcase
  have HBACK := Aside.mk hback
  clear h45 h47s h60 h62 h47b hcase hback
  obtain ⟨S, hS⟩ : ∃ S, S = w.heap.size := ⟨_, rfl⟩
  go_enter Try.func10, Try.ntmps10
  go_wp2_with fail
  refine (C45.out _).mono ?_
  rintro e w1 ⟨rfl, k1⟩
  have HC1 : Aside (Whole w1 S 62 (confCells c)) := ⟨by rw [hS]; exact k1.whole (Whole.new w 62 (confCells c)) (by simp)⟩
  have HK1 : Aside (Keeps [] w w1) := ⟨((Keeps.refl [] w).alloc _).nil_trans k1⟩
  rw [← hS]
  clear k1 hS
  go_wp2_with fail
  refine (C47s.out _).mono ?_
  rintro e w2 ⟨rfl, k2⟩
  have HC2 : Aside (Whole w2 S 62 (confCells c)) := ⟨k2.whole HC1.out (by simp)⟩
  have HK2 : Aside (Keeps [] w w2) := ⟨HK1.out.nil_trans k2⟩
  obtain ⟨X, hX⟩ : ∃ X, X = w2.heap.size := ⟨_, rfl⟩
  clear k2 HC1 HK1
  go_wp2_with (first | (refine wpList_load_row rfl 62 _ rfl S rfl 62 _ (0, 0) _ (HC2.out.alloc _) Try.underlying62 rfl (by kernel_rfl) ?_) | fail)
  refine (list_calls c _).mono ?_
  rintro e w3 ⟨g, cap, rfl, hg, hcs, k3⟩
  have HC3 : Aside (Whole w3 S 62 (confCells c)) := ⟨k3.whole (HC2.out.alloc _) (by simp)⟩
  have HX3 : Aside (Whole w3 X 62 (confCells x)) := ⟨by rw [hX]; exact k3.whole (Whole.new w2 62 (confCells x)) (by simp)⟩
  have HK3 : Aside (Keeps [] w w3) := ⟨(HK2.out.alloc _).nil_trans k3⟩
  have CO := Aside.mk (C60.out g cap w3 (lt_of_cell' (hcs 0 (by omega))) hcs)
  rw [← hX]
  clear hg hcs k3 HC2 HK2 hX C60
  go_wp2_with fail
  refine CO.out.mono ?_
  rintro e w4 ⟨rfl, k4⟩
  have HC4 : Aside (Whole w4 S 62 (confCells c)) := ⟨k4.whole HC3.out (by simp)⟩
  have HX4 : Aside (Whole w4 X 62 (confCells x)) := ⟨k4.whole HX3.out (by simp)⟩
  have HK4 : Aside (Keeps [] w w4) := ⟨HK3.out.nil_trans k4⟩
  obtain ⟨Y, hY⟩ : ∃ Y, Y = w4.heap.size := ⟨_, rfl⟩
  clear k4 HC3 HX3 HK3 CO
  go_wp2_with (first | (refine wpList_load_row rfl 62 _ rfl S rfl 62 _ (0, 0) _ (HC4.out.alloc _) Try.underlying62 rfl (by kernel_rfl) ?_) | fail)
  refine (C62.out _).mono ?_
  rintro e w6 ⟨rfl, k6⟩
  have HC6 : Aside (Whole w6 S 62 (confCells c)) := ⟨k6.whole (HC4.out.alloc _) (by simp)⟩
  have HX6 : Aside (Whole w6 X 62 (confCells x)) := ⟨k6.whole (HX4.out.alloc _) (by simp)⟩
  have HY6 : Aside (Whole w6 Y 62 (confCells y)) := ⟨by rw [hY]; exact k6.whole (Whole.new w4 62 (confCells y)) (by simp)⟩
  have HK6 : Aside (Keeps [] w w6) := ⟨(HK4.out.alloc _).nil_trans k6⟩
  rw [← hY]
  clear k6 HC4 HX4 HK4 hY C62 C45 C47s
  rcases HCASE.out with ⟨rfl, hx, hy⟩ | rfl
  · rw [hx] at HX6
    rw [hy] at HY6
    clear hx hy
    have hc6 := HC6.out
    have hx6 := HX6.out
    have hy6 := HY6.out
    have s0_w6 : w6.cell? ⟨S, 0, none⟩ = some (.int .i64 (c 0)) := hc6.cell 0
    have s1_w6 : w6.cell? ⟨S, 1, none⟩ = some (.int .i64 (c 1)) := hc6.cell 1
    have s2_w6 : w6.cell? ⟨S, 2, none⟩ = some (.int .i64 (c 2)) := hc6.cell 2
    have s3_w6 : w6.cell? ⟨S, 3, none⟩ = some (.int .i64 (c 3)) := hc6.cell 3
    have s4_w6 : w6.cell? ⟨S, 4, none⟩ = some (.int .i64 (c 4)) := hc6.cell 4
    have s5_w6 : w6.cell? ⟨S, 5, none⟩ = some (.int .i64 (c 5)) := hc6.cell 5
    have s6_w6 : w6.cell? ⟨S, 6, none⟩ = some (.int .i64 (c 6)) := hc6.cell 6
    have s7_w6 : w6.cell? ⟨S, 7, none⟩ = some (.int .i64 (c 7)) := hc6.cell 7
    have s8_w6 : w6.cell? ⟨S, 8, none⟩ = some (.int .i64 (c 8)) := hc6.cell 8
    have x0_w6 : w6.cell? ⟨X, 0, none⟩ = some (.int .i64 (c 0)) := hx6.cell 0
    have x1_w6 : w6.cell? ⟨X, 1, none⟩ = some (.int .i64 (c 1)) := hx6.cell 1
    have x2_w6 : w6.cell? ⟨X, 2, none⟩ = some (.int .i64 (c 2)) := hx6.cell 2
    have x3_w6 : w6.cell? ⟨X, 3, none⟩ = some (.int .i64 (c 3)) := hx6.cell 3
    have x4_w6 : w6.cell? ⟨X, 4, none⟩ = some (.int .i64 (c 4)) := hx6.cell 4
    have x5_w6 : w6.cell? ⟨X, 5, none⟩ = some (.int .i64 (c 5)) := hx6.cell 5
    have x6_w6 : w6.cell? ⟨X, 6, none⟩ = some (.int .i64 (c 6)) := hx6.cell 6
    have x7_w6 : w6.cell? ⟨X, 7, none⟩ = some (.int .i64 (c 7)) := hx6.cell 7
    have x8_w6 : w6.cell? ⟨X, 8, none⟩ = some (.int .i64 (c 8)) := hx6.cell 8
    have y0_w6 : w6.cell? ⟨Y, 0, none⟩ = some (.int .i64 (c 0)) := hy6.cell 0
    have y1_w6 : w6.cell? ⟨Y, 1, none⟩ = some (.int .i64 (c 1)) := hy6.cell 1
    have y2_w6 : w6.cell? ⟨Y, 2, none⟩ = some (.int .i64 (c 2)) := hy6.cell 2
    have y3_w6 : w6.cell? ⟨Y, 3, none⟩ = some (.int .i64 (c 3)) := hy6.cell 3
    have y4_w6 : w6.cell? ⟨Y, 4, none⟩ = some (.int .i64 (c 4)) := hy6.cell 4
    have y5_w6 : w6.cell? ⟨Y, 5, none⟩ = some (.int .i64 (c 5)) := hy6.cell 5
    have y6_w6 : w6.cell? ⟨Y, 6, none⟩ = some (.int .i64 (c 6)) := hy6.cell 6
    have y7_w6 : w6.cell? ⟨Y, 7, none⟩ = some (.int .i64 (c 7)) := hy6.cell 7
    have y8_w6 : w6.cell? ⟨Y, 8, none⟩ = some (.int .i64 (c 8)) := hy6.cell 8
    clear hc6 hx6 hy6 HCASE
    go_wp2_with fail
    clear s0_w6 s1_w6 s2_w6 s3_w6 s4_w6 s5_w6 s6_w6 s7_w6 s8_w6 x0_w6 x1_w6 x2_w6 x3_w6 x4_w6 x5_w6 x6_w6 x7_w6 x8_w6 y0_w6 y1_w6 y2_w6 y3_w6 y4_w6 y5_w6 y6_w6 y7_w6 y8_w6
    refine (C47b.out _).mono ?_
    rintro e w7 ⟨rfl, k7⟩
    have HK7 : Aside (Keeps [] w w7) := ⟨HK6.out.nil_trans k7⟩
    obtain ⟨Z, hZ⟩ : ∃ Z, Z = w7.heap.size := ⟨_, rfl⟩
    clear k7 HK6 C47b
    rcases HBACK.out with ⟨rfl, hz⟩ | ⟨rfl, hq, h45z, h62z⟩
    · clear HBACK
      rw [hz]
      clear hz
      go_wp2_with fail
      refine (awake37 _).mono ?_
      rintro e w8 ⟨rfl, k8⟩
      have HK8 : Aside (Keeps [] w w8) := ⟨(HK7.out.alloc _).nil_trans k8⟩
      clear k8
      go_wp2_with fail
      go_ret
      exact ⟨rfl, HK8.out⟩
    · clear HBACK
      have C45z := Aside.mk h45z
      have C62z := Aside.mk h62z
      have hq1 : decide (1040 ≤ z 0) = true := decide_eq_true hq
      clear h45z h62z
      go_wp2_with fail
      refine (C45z.out _).mono ?_
      rintro e w8 ⟨rfl, k8⟩
      have hz8 : Whole w8 Z 62 (confCells z) := by rw [hZ]; exact k8.whole (Whole.new w7 62 (confCells z)) (by simp)
      have HZ8 := Aside.mk hz8
      have HK8 : Aside (Keeps [] w w8) := ⟨(HK7.out.alloc _).nil_trans k8⟩
      have z0_w8 : w8.cell? ⟨Z, 0, none⟩ = some (.int .i64 (z 0)) := hz8.cell 0
      have z1_w8 : w8.cell? ⟨Z, 1, none⟩ = some (.int .i64 (z 1)) := hz8.cell 1
      have z2_w8 : w8.cell? ⟨Z, 2, none⟩ = some (.int .i64 (z 2)) := hz8.cell 2
      have z3_w8 : w8.cell? ⟨Z, 3, none⟩ = some (.int .i64 (z 3)) := hz8.cell 3
      have z4_w8 : w8.cell? ⟨Z, 4, none⟩ = some (.int .i64 (z 4)) := hz8.cell 4
      have z5_w8 : w8.cell? ⟨Z, 5, none⟩ = some (.int .i64 (z 5)) := hz8.cell 5
      have z6_w8 : w8.cell? ⟨Z, 6, none⟩ = some (.int .i64 (z 6)) := hz8.cell 6
      have z7_w8 : w8.cell? ⟨Z, 7, none⟩ = some (.int .i64 (z 7)) := hz8.cell 7
      have z8_w8 : w8.cell? ⟨Z, 8, none⟩ = some (.int .i64 (z 8)) := hz8.cell 8
      rw [← hZ]
      clear k8 hz8 hZ HK7
      go_wp2_with fail
      refine (C62z.out _).mono ?_
      rintro e w9 ⟨rfl, k9⟩
      have HK9 : Aside (Keeps [] w w9) := ⟨HK8.out.nil_trans k9⟩
      have zz : w9.cell? ⟨Z, 0, none⟩ = some (.int .i64 (z 0)) := (k9.whole HZ8.out (by simp)).cell 0
      clear k9 HK8 HZ8 z0_w8 z1_w8 z2_w8 z3_w8 z4_w8 z5_w8 z6_w8 z7_w8 z8_w8
      go_wp2_with fail
      refine (awake37 _).mono ?_
      rintro e w10 ⟨rfl, k10⟩
      have HK10 : Aside (Keeps [] w w10) := ⟨HK9.out.nil_trans k10⟩
      clear k10 HK9 zz
      go_wp2_with fail
      go_ret
      exact ⟨rfl, HK10.out⟩
  · clear HCASE
    go_wp2_with fail
    refine (C47b.out _).mono ?_
    rintro e w7 ⟨rfl, k7⟩
    have HK7 : Aside (Keeps [] w w7) := ⟨HK6.out.nil_trans k7⟩
    obtain ⟨Z, hZ⟩ : ∃ Z, Z = w7.heap.size := ⟨_, rfl⟩
    clear k7 HK6 C47b
    rcases HBACK.out with ⟨rfl, hz⟩ | ⟨rfl, hq, h45z, h62z⟩
    · clear HBACK
      rw [hz]
      clear hz
      go_wp2_with fail
      refine (awake37 _).mono ?_
      rintro e w8 ⟨rfl, k8⟩
      have HK8 : Aside (Keeps [] w w8) := ⟨(HK7.out.alloc _).nil_trans k8⟩
      clear k8
      go_wp2_with fail
      go_ret
      exact ⟨rfl, HK8.out⟩
    · clear HBACK
      have C45z := Aside.mk h45z
      have C62z := Aside.mk h62z
      have hq1 : decide (1040 ≤ z 0) = true := decide_eq_true hq
      clear h45z h62z
      go_wp2_with fail
      refine (C45z.out _).mono ?_
      rintro e w8 ⟨rfl, k8⟩
      have hz8 : Whole w8 Z 62 (confCells z) := by rw [hZ]; exact k8.whole (Whole.new w7 62 (confCells z)) (by simp)
      have HZ8 := Aside.mk hz8
      have HK8 : Aside (Keeps [] w w8) := ⟨(HK7.out.alloc _).nil_trans k8⟩
      have z0_w8 : w8.cell? ⟨Z, 0, none⟩ = some (.int .i64 (z 0)) := hz8.cell 0
      have z1_w8 : w8.cell? ⟨Z, 1, none⟩ = some (.int .i64 (z 1)) := hz8.cell 1
      have z2_w8 : w8.cell? ⟨Z, 2, none⟩ = some (.int .i64 (z 2)) := hz8.cell 2
      have z3_w8 : w8.cell? ⟨Z, 3, none⟩ = some (.int .i64 (z 3)) := hz8.cell 3
      have z4_w8 : w8.cell? ⟨Z, 4, none⟩ = some (.int .i64 (z 4)) := hz8.cell 4
      have z5_w8 : w8.cell? ⟨Z, 5, none⟩ = some (.int .i64 (z 5)) := hz8.cell 5
      have z6_w8 : w8.cell? ⟨Z, 6, none⟩ = some (.int .i64 (z 6)) := hz8.cell 6
      have z7_w8 : w8.cell? ⟨Z, 7, none⟩ = some (.int .i64 (z 7)) := hz8.cell 7
      have z8_w8 : w8.cell? ⟨Z, 8, none⟩ = some (.int .i64 (z 8)) := hz8.cell 8
      rw [← hZ]
      clear k8 hz8 hZ HK7
      go_wp2_with fail
      refine (C62z.out _).mono ?_
      rintro e w9 ⟨rfl, k9⟩
      have HK9 : Aside (Keeps [] w w9) := ⟨HK8.out.nil_trans k9⟩
      have zz : w9.cell? ⟨Z, 0, none⟩ = some (.int .i64 (z 0)) := (k9.whole HZ8.out (by simp)).cell 0
      clear k9 HK8 HZ8 z0_w8 z1_w8 z2_w8 z3_w8 z4_w8 z5_w8 z6_w8 z7_w8 z8_w8
      go_wp2_with fail
      refine (awake37 _).mono ?_
      rintro e w10 ⟨rfl, k10⟩
      have HK10 : Aside (Keeps [] w w10) := ⟨HK9.out.nil_trans k10⟩
      clear k10 HK9 zz
      go_wp2_with fail
      go_ret
      exact ⟨rfl, HK10.out⟩

theorem confBack_at (c : Nat → Int) (b : ByteArray) (hb : b.size ≤ 140737488351232) (w : World) :
    Calls Try.prog 10 #[.agg (confCells c), .string b] w fun e w' => e = .returned (.bool true) ∧ Keeps [] w w' := by
  have hput : (putTxt c).size ≤ 1152921504606846976 := by
    unfold putTxt
    split
    · next h =>
      have := cput_len (natsOf c) (nats_le h) 9 (by omega)
      rw [txt_size]
      omega
    · show 0 ≤ _
      omega
  refine confBack_go c (takeRes (putTxt c)) (ofRes c) (takeRes b) (checkRes c) (takeErr b) (putTxt c) b w (cPut_calls c) (fun w => ?_) (fun g cap w hg hcs => ?_) (check_calls c) (cTake_calls b (by omega)) ?_ ?_
  · have := cTake_calls (putTxt c) hput w
    rw [take_put_err c] at this
    exact this
  · exact of_nine ⟨g, 0, none⟩ cap c w hg (fun i hi => by rw [add_zero']; exact hcs i hi)
  · rcases check_cases c with h | h
    · exact .inl ⟨h.symm, (take_put h).2, by rw [of_ok h]⟩
    · exact .inr h.symm
  · rcases take_cases b with ⟨h1, h2⟩ | ⟨h1, h2, h3, h4⟩
    · exact .inl ⟨h1.symm, by rw [h2]⟩
    · refine .inr ⟨h1.symm, h4, fun w => ?_, fun w => ?_⟩
      · have := cPut_calls (takeRes b) w
        rw [h2, h3] at this
        exact this
      · have := check_calls (takeRes b) w
        rw [h2] at this
        exact this
theorem confBack_walk (q0 : Int) (_ : -9223372036854775808 ≤ q0) (_ : q0 ≤ 9223372036854775807) (q1 : Int) (_ : -9223372036854775808 ≤ q1) (_ : q1 ≤ 9223372036854775807) (q2 : Int) (_ : -9223372036854775808 ≤ q2) (_ : q2 ≤ 9223372036854775807) (q3 : Int) (_ : -9223372036854775808 ≤ q3) (_ : q3 ≤ 9223372036854775807) (q4 : Int) (_ : -9223372036854775808 ≤ q4) (_ : q4 ≤ 9223372036854775807) (q5 : Int) (_ : -9223372036854775808 ≤ q5) (_ : q5 ≤ 9223372036854775807) (q6 : Int) (_ : -9223372036854775808 ≤ q6) (_ : q6 ≤ 9223372036854775807) (q7 : Int) (_ : -9223372036854775808 ≤ q7) (_ : q7 ≤ 9223372036854775807) (q8 : Int) (_ : -9223372036854775808 ≤ q8) (_ : q8 ≤ 9223372036854775807) (b : ByteArray) (hb : b.size ≤ 140737488351232) (w : World) :
    Calls Try.prog 10 #[.agg #[.int .i64 q0, .int .i64 q1, .int .i64 q2, .int .i64 q3, .int .i64 q4, .int .i64 q5, .int .i64 q6, .int .i64 q7, .int .i64 q8], .string b] w fun e w' => e = .returned (.bool true) ∧ Keeps [] w w' :=
  confBack_at (nineQ q0 q1 q2 q3 q4 q5 q6 q7 q8) b hb w
end Go.Proofs.Ythcjcgagbpfkpaa

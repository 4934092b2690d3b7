/- ConfBytes: which bytes any configuration has, and which one any bytes are those of. -/
import Derived.Test.YthcjcgagbpfkpaaRCTake
import Derived.Test.YthcjcgagbpfkpaaAwake37
namespace Go.Proofs.Ythcjcgagbpfkpaa
set_option linter.unusedVariables false
set_option linter.unusedSimpArgs false
open Go.RowKit

theorem check_congr {c c' : Nat → Int} (h : ∀ i, i < 9 → c i = c' i) : checkRes c = checkRes c' := by
  have : confOk c = confOk c' := by
    unfold confOk
    rw [Bool.eq_iff_iff, List.all_eq_true, List.all_eq_true]
    constructor
    · intro hh i hi
      have := hh i hi
      unfold okAt at this ⊢
      rwa [← h i.val i.isLt]
    · intro hh i hi
      have := hh i hi
      unfold okAt at this ⊢
      rwa [h i.val i.isLt]
  unfold checkRes
  rw [this]
theorem check_cases (c : Nat → Int) : checkRes c = 0 ∨ checkRes c = 1 := by
  unfold checkRes
  split
  · exact .inl rfl
  · exact .inr rfl
theorem most_le (i : Nat) : mostOf i ≤ 1048576 := by unfold mostOf; split <;> (try split) <;> omega
theorem least_ge (i : Nat) : 0 ≤ leastOf i := by unfold leastOf; split <;> omega
theorem check_ok {c : Nat → Int} (h : checkRes c = 0) (i : Nat) (hi : i < 9) : leastOf i ≤ c i ∧ c i ≤ mostOf i := by
  have hok : confOk c = true := by
    unfold checkRes at h
    split at h
    · assumption
    · omega
  unfold confOk at hok
  have := List.all_eq_true.1 hok ⟨i, hi⟩ (List.mem_finRange _)
  unfold okAt at this
  exact of_decide_eq_true this

/-- A configuration's numbers without a sign. -/
def natsOf (c : Nat → Int) : Nat → Nat := fun i => (c i).toNat
theorem nats_eq {c : Nat → Int} (h : checkRes c = 0) (i : Nat) (hi : i < 9) : c i = natC (natsOf c) i := by
  have := (check_ok h i hi).1
  have := least_ge i
  unfold natC natsOf
  omega
theorem cells_congr {c c' : Nat → Int} (h : ∀ i, i < 9 → c i = c' i) : confCells c = confCells c' := by
  unfold confCells
  rw [h 0 (by omega), h 1 (by omega), h 2 (by omega), h 3 (by omega), h 4 (by omega), h 5 (by omega), h 6 (by omega), h 7 (by omega), h 8 (by omega)]
theorem nats_le {c : Nat → Int} (h : checkRes c = 0) (i : Nat) (hi : i < 9) : natsOf c i ≤ 1048576 := by
  have := (check_ok h i hi).2
  have := most_le i
  unfold natsOf
  omega

/-- A configuration's bytes. -/
def putTxt (c : Nat → Int) : ByteArray := if checkRes c = 0 then txt (cput (natsOf c) 9) else ⟨#[]⟩

theorem cPut_calls (c : Nat → Int) (w : World) : Calls Try.prog 45 #[.agg (confCells c)] w fun e w' => e = .returned (.tuple #[.string (putTxt c), .int .i64 (checkRes c)]) ∧ Keeps [] w w' := by
  unfold putTxt
  rcases check_cases c with h | h
  · rw [h, if_pos rfl, cells_congr (nats_eq h)]
    exact cPut_good (natsOf c) (nats_le h) (by rw [← check_congr (nats_eq h)]; exact h) w
  · rw [h, if_neg (by omega)]
    exact cPut_bad c h w
theorem rcPut_calls (c : Nat → Int) (w : World) : Calls Try.prog 46 #[.agg (confCells c)] w fun e w' => e = .returned (.tuple #[.string (putTxt c), .int .i64 (checkRes c)]) ∧ Keeps [] w w' := by
  unfold putTxt
  rcases check_cases c with h | h
  · rw [h, if_pos rfl, cells_congr (nats_eq h)]
    exact rcPut_good (natsOf c) (nats_le h) (by rw [← check_congr (nats_eq h)]; exact h) w
  · rw [h, if_neg (by omega)]
    exact rcPut_bad c h w

set_option maxRecDepth 100000 in
set_option maxHeartbeats 8000000 in
theorem confBytes_go (c f : Nat → Int) (ck er : Int) (s b : ByteArray) (w : World)
    (h45 : ∀ w, Calls Try.prog 45 #[.agg (confCells c)] w fun e w' => e = .returned (.tuple #[.string s, .int .i64 ck]) ∧ Keeps [] w w')
    (h46 : ∀ w, Calls Try.prog 46 #[.agg (confCells c)] w fun e w' => e = .returned (.tuple #[.string s, .int .i64 ck]) ∧ Keeps [] w w')
    (h47 : ∀ w, Calls Try.prog 47 #[.string b] w fun e w' => e = .returned (.tuple #[.agg (confCells f), .int .i64 er]) ∧ Keeps [] w w')
    (h48 : ∀ w, Calls Try.prog 48 #[.string b] w fun e w' => e = .returned (.tuple #[.agg (confCells f), .int .i64 er]) ∧ Keeps [] w w') :
    Calls Try.prog 8 #[.agg (confCells c), .string b] w fun e w' => e = .returned (.bool true) ∧ Keeps [] w w' := by
  have C45 := Aside.mk h45
  have C46 := Aside.mk h46
  have C47 := Aside.mk h47
  have C48 := Aside.mk h48
  clear h45 h46 h47 h48
  go_enter Try.func8, Try.ntmps8
  go_wp2_with fail
  refine (C45.out _).mono ?_
  rintro e w1 ⟨rfl, k1⟩
  have HC1 : Aside (Whole w1 w.heap.size 62 (confCells c)) := ⟨k1.whole (Whole.new w 62 (confCells c)) (by simp)⟩
  have HK1 : Aside (Keeps [] w w1) := ⟨((Keeps.refl [] w).alloc _).nil_trans k1⟩
  clear k1
  go_wp2_with (first | (refine wpList_load_row rfl 62 _ rfl w.heap.size rfl 62 _ (0, 0) _ HC1.out Try.underlying62 rfl (by kernel_rfl) ?_) | fail)
  refine (C46.out _).mono ?_
  rintro e w2 ⟨rfl, k2⟩
  have HK2 : Aside (Keeps [] w w2) := ⟨HK1.out.nil_trans k2⟩
  clear k2 HC1 HK1
  go_wp2_with fail
  refine (C47.out _).mono ?_
  rintro e w3 ⟨rfl, k3⟩
  have HK3 : Aside (Keeps [] w w3) := ⟨HK2.out.nil_trans k3⟩
  clear k3 HK2
  go_wp2_with fail
  refine (C48.out _).mono ?_
  rintro e w4 ⟨rfl, k4⟩
  obtain ⟨X, hX⟩ : ∃ X, X = w3.heap.size := ⟨_, rfl⟩
  have HX4 : Aside (Whole w4 X 62 (confCells f)) := ⟨by rw [hX]; exact k4.whole (Whole.new w3 62 (confCells f)) (by simp)⟩
  have HK4 : Aside (Keeps [] w w4) := ⟨(HK3.out.alloc _).nil_trans k4⟩
  simp only [← hX]
  clear k4 HK3 hX
  go_upto_region 5 with (fail)
  obtain ⟨w5, hw5⟩ : ∃ w5, w5 = w4.alloc (.cells (confCells f) 62) := ⟨_, rfl⟩
  obtain ⟨Y, hY⟩ : ∃ Y, Y = w4.heap.size := ⟨_, rfl⟩
  have HY5 : Aside (Whole w5 Y 62 (confCells f)) := ⟨by rw [hw5, hY]; exact Whole.new w4 62 (confCells f)⟩
  have HX5 : Aside (Whole w5 X 62 (confCells f)) := ⟨by rw [hw5]; exact HX4.out.alloc _⟩
  have HK5 : Aside (Keeps [] w w5) := ⟨by rw [hw5]; exact HK4.out.alloc _⟩
  have hw5' := hw5
  simp only [confCells] at hw5'
  try rw [← hw5]
  try rw [← hw5']
  try rw [← hY]
  clear hw5 hw5' hY HX4 HK4
  have x0 : w5.cell? ⟨X, 0, none⟩ = some (.int .i64 (f 0)) := HX5.out.cell 0
  have x1 : w5.cell? ⟨X, 1, none⟩ = some (.int .i64 (f 1)) := HX5.out.cell 1
  have x2 : w5.cell? ⟨X, 2, none⟩ = some (.int .i64 (f 2)) := HX5.out.cell 2
  have x3 : w5.cell? ⟨X, 3, none⟩ = some (.int .i64 (f 3)) := HX5.out.cell 3
  have x4 : w5.cell? ⟨X, 4, none⟩ = some (.int .i64 (f 4)) := HX5.out.cell 4
  have x5 : w5.cell? ⟨X, 5, none⟩ = some (.int .i64 (f 5)) := HX5.out.cell 5
  have x6 : w5.cell? ⟨X, 6, none⟩ = some (.int .i64 (f 6)) := HX5.out.cell 6
  have x7 : w5.cell? ⟨X, 7, none⟩ = some (.int .i64 (f 7)) := HX5.out.cell 7
  have x8 : w5.cell? ⟨X, 8, none⟩ = some (.int .i64 (f 8)) := HX5.out.cell 8
  have y0 : w5.cell? ⟨Y, 0, none⟩ = some (.int .i64 (f 0)) := HY5.out.cell 0
  have y1 : w5.cell? ⟨Y, 1, none⟩ = some (.int .i64 (f 1)) := HY5.out.cell 1
  have y2 : w5.cell? ⟨Y, 2, none⟩ = some (.int .i64 (f 2)) := HY5.out.cell 2
  have y3 : w5.cell? ⟨Y, 3, none⟩ = some (.int .i64 (f 3)) := HY5.out.cell 3
  have y4 : w5.cell? ⟨Y, 4, none⟩ = some (.int .i64 (f 4)) := HY5.out.cell 4
  have y5 : w5.cell? ⟨Y, 5, none⟩ = some (.int .i64 (f 5)) := HY5.out.cell 5
  have y6 : w5.cell? ⟨Y, 6, none⟩ = some (.int .i64 (f 6)) := HY5.out.cell 6
  have y7 : w5.cell? ⟨Y, 7, none⟩ = some (.int .i64 (f 7)) := HY5.out.cell 7
  have y8 : w5.cell? ⟨Y, 8, none⟩ = some (.int .i64 (f 8)) := HY5.out.cell 8
  go_wp2_with fail
  refine (awake37 _).mono ?_
  rintro e w6 ⟨rfl, k6⟩
  have HK6 : Aside (Keeps [] w w6) := ⟨HK5.out.nil_trans k6⟩
  clear k6
  go_wp2_with fail
  go_ret
  exact ⟨rfl, HK6.out⟩

/-- Nine numbers. -/
def nineQ (q0 q1 q2 q3 q4 q5 q6 q7 q8 : Int) : Nat → Int
  | 0 => q0 | 1 => q1 | 2 => q2 | 3 => q3 | 4 => q4 | 5 => q5 | 6 => q6 | 7 => q7 | _ => q8
theorem confBytes_at (c : Nat → Int) (b : ByteArray) (hb : b.size ≤ 140737488351232) (w : World) :
    Calls Try.prog 8 #[.agg (confCells c), .string b] w fun e w' => e = .returned (.bool true) ∧ Keeps [] w w' :=
  confBytes_go c (takeRes b) (checkRes c) (takeErr b) (putTxt c) b w (cPut_calls c) (rcPut_calls c) (cTake_calls b (by omega)) (rcTake_calls b (by omega))
theorem confBytes_walk (q0 : Int) (_ : -9223372036854775808 ≤ q0) (_ : q0 ≤ 9223372036854775807) (q1 : Int) (_ : -9223372036854775808 ≤ q1) (_ : q1 ≤ 9223372036854775807) (q2 : Int) (_ : -9223372036854775808 ≤ q2) (_ : q2 ≤ 9223372036854775807) (q3 : Int) (_ : -9223372036854775808 ≤ q3) (_ : q3 ≤ 9223372036854775807) (q4 : Int) (_ : -9223372036854775808 ≤ q4) (_ : q4 ≤ 9223372036854775807) (q5 : Int) (_ : -9223372036854775808 ≤ q5) (_ : q5 ≤ 9223372036854775807) (q6 : Int) (_ : -9223372036854775808 ≤ q6) (_ : q6 ≤ 9223372036854775807) (q7 : Int) (_ : -9223372036854775808 ≤ q7) (_ : q7 ≤ 9223372036854775807) (q8 : Int) (_ : -9223372036854775808 ≤ q8) (_ : q8 ≤ 9223372036854775807) (b : ByteArray) (hb : b.size ≤ 140737488351232) (w : World) :
    Calls Try.prog 8 #[.agg #[.int .i64 q0, .int .i64 q1, .int .i64 q2, .int .i64 q3, .int .i64 q4, .int .i64 q5, .int .i64 q6, .int .i64 q7, .int .i64 q8], .string b] w fun e w' => e = .returned (.bool true) ∧ Keeps [] w w' :=
  confBytes_at (nineQ q0 q1 q2 q3 q4 q5 q6 q7 q8) b hb w
end Go.Proofs.Ythcjcgagbpfkpaa

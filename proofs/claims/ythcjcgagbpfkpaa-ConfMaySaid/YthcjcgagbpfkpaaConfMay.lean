/- ConfMay: which configurations may be, which numbers they have, and which numbers have one. -/
import Derived.Test.YthcjcgagbpfkpaaAwake37
namespace Go.Proofs.Ythcjcgagbpfkpaa
set_option linter.unusedVariables false
set_option linter.unusedSimpArgs false
open Go.RowKit

set_option maxRecDepth 100000 in
set_option maxHeartbeats 8000000 in
theorem confMay_go (c f : Nat → Int) (res : Int) (a : Option Addr) (len cap : Nat) (w : World)
    (h60 : ∀ w', Keeps [] w w' → Calls Try.prog 60 #[.slice a len cap] w' fun e w'' => e = .returned (.tuple #[.agg (confCells f), .int .i64 res]) ∧ Keeps [] w' w'')
    (h75 : ∀ w', Keeps [] w w' → Calls Try.prog 75 #[.slice a len cap] w' fun e w'' => e = .returned (.tuple #[.agg (confCells f), .int .i64 res]) ∧ Keeps [] w' w'') :
    Calls Try.prog 17 #[.agg (confCells c), .slice a len cap] w fun e w' => e = .returned (.bool true) ∧ Keeps [] w w' := by
  have C60 := Aside.mk h60
  have C75 := Aside.mk h75
  clear h60 h75
  go_enter Try.func17, Try.ntmps17
  go_wp2_with fail
  refine (C60.out _ ((Keeps.refl [] w).alloc _)).mono ?_
  rintro e w1 ⟨rfl, k1⟩
  obtain ⟨S, hS⟩ : ∃ S, S = w.heap.size := ⟨_, rfl⟩
  have HC1 : Aside (Whole w1 S 62 (confCells c)) := ⟨by rw [hS]; exact k1.whole (Whole.new w 62 (confCells c)) (by simp)⟩
  have HK1 : Aside (Keeps [] w w1) := ⟨((Keeps.refl [] w).alloc _).nil_trans k1⟩
  simp only [← hS]
  clear k1 hS C60
  go_wp2_with fail
  refine (C75.out _ (HK1.out.alloc _)).mono ?_
  rintro e w2 ⟨rfl, k2⟩
  obtain ⟨X, hX⟩ : ∃ X, X = w1.heap.size := ⟨_, rfl⟩
  have HC2 : Aside (Whole w2 S 62 (confCells c)) := ⟨k2.whole (HC1.out.alloc _) (by simp)⟩
  have HX2 : Aside (Whole w2 X 62 (confCells f)) := ⟨by rw [hX]; exact k2.whole (Whole.new w1 62 (confCells f)) (by simp)⟩
  have HK2 : Aside (Keeps [] w w2) := ⟨(HK1.out.alloc _).nil_trans k2⟩
  simp only [← hX]
  clear k2 hX C75 HC1 HK1
  go_wp2_with fail
  obtain ⟨w3, hw3⟩ : ∃ w3, w3 = w2.alloc (.cells (confCells f) 62) := ⟨_, rfl⟩
  obtain ⟨Y, hY⟩ : ∃ Y, Y = w2.heap.size := ⟨_, rfl⟩
  have HC3 : Aside (Whole w3 S 62 (confCells c)) := ⟨by rw [hw3]; exact HC2.out.alloc _⟩
  have HX3 : Aside (Whole w3 X 62 (confCells f)) := ⟨by rw [hw3]; exact HX2.out.alloc _⟩
  have HY3 : Aside (Whole w3 Y 62 (confCells f)) := ⟨by rw [hw3, hY]; exact Whole.new w2 62 (confCells f)⟩
  have HK3 : Aside (Keeps [] w w3) := ⟨by rw [hw3]; exact HK2.out.alloc _⟩
  have hw3' := hw3
  simp only [confCells] at hw3'
  try rw [← hw3]
  try rw [← hw3']
  try rw [← hY]
  clear hw3 hw3' hY HC2 HX2 HK2
  have s0 : w3.cell? ⟨S, 0, none⟩ = some (.int .i64 (c 0)) := HC3.out.cell 0
  have s1 : w3.cell? ⟨S, 1, none⟩ = some (.int .i64 (c 1)) := HC3.out.cell 1
  have s2 : w3.cell? ⟨S, 2, none⟩ = some (.int .i64 (c 2)) := HC3.out.cell 2
  have s3 : w3.cell? ⟨S, 3, none⟩ = some (.int .i64 (c 3)) := HC3.out.cell 3
  have s4 : w3.cell? ⟨S, 4, none⟩ = some (.int .i64 (c 4)) := HC3.out.cell 4
  have s5 : w3.cell? ⟨S, 5, none⟩ = some (.int .i64 (c 5)) := HC3.out.cell 5
  have s6 : w3.cell? ⟨S, 6, none⟩ = some (.int .i64 (c 6)) := HC3.out.cell 6
  have s7 : w3.cell? ⟨S, 7, none⟩ = some (.int .i64 (c 7)) := HC3.out.cell 7
  have s8 : w3.cell? ⟨S, 8, none⟩ = some (.int .i64 (c 8)) := HC3.out.cell 8
  have x0 : w3.cell? ⟨X, 0, none⟩ = some (.int .i64 (f 0)) := HX3.out.cell 0
  have x1 : w3.cell? ⟨X, 1, none⟩ = some (.int .i64 (f 1)) := HX3.out.cell 1
  have x2 : w3.cell? ⟨X, 2, none⟩ = some (.int .i64 (f 2)) := HX3.out.cell 2
  have x3 : w3.cell? ⟨X, 3, none⟩ = some (.int .i64 (f 3)) := HX3.out.cell 3
  have x4 : w3.cell? ⟨X, 4, none⟩ = some (.int .i64 (f 4)) := HX3.out.cell 4
  have x5 : w3.cell? ⟨X, 5, none⟩ = some (.int .i64 (f 5)) := HX3.out.cell 5
  have x6 : w3.cell? ⟨X, 6, none⟩ = some (.int .i64 (f 6)) := HX3.out.cell 6
  have x7 : w3.cell? ⟨X, 7, none⟩ = some (.int .i64 (f 7)) := HX3.out.cell 7
  have x8 : w3.cell? ⟨X, 8, none⟩ = some (.int .i64 (f 8)) := HX3.out.cell 8
  have y0 : w3.cell? ⟨Y, 0, none⟩ = some (.int .i64 (f 0)) := HY3.out.cell 0
  have y1 : w3.cell? ⟨Y, 1, none⟩ = some (.int .i64 (f 1)) := HY3.out.cell 1
  have y2 : w3.cell? ⟨Y, 2, none⟩ = some (.int .i64 (f 2)) := HY3.out.cell 2
  have y3 : w3.cell? ⟨Y, 3, none⟩ = some (.int .i64 (f 3)) := HY3.out.cell 3
  have y4 : w3.cell? ⟨Y, 4, none⟩ = some (.int .i64 (f 4)) := HY3.out.cell 4
  have y5 : w3.cell? ⟨Y, 5, none⟩ = some (.int .i64 (f 5)) := HY3.out.cell 5
  have y6 : w3.cell? ⟨Y, 6, none⟩ = some (.int .i64 (f 6)) := HY3.out.cell 6
  have y7 : w3.cell? ⟨Y, 7, none⟩ = some (.int .i64 (f 7)) := HY3.out.cell 7
  have y8 : w3.cell? ⟨Y, 8, none⟩ = some (.int .i64 (f 8)) := HY3.out.cell 8
  have hk3 : Keeps [] w w3 := HK3.out
  clear HC3 HX3 HY3 HK3
  go_region_held3 (fun w' => w'.cell? ⟨S, 0, none⟩ = some (.int .i64 (c 0)) ∧ w'.cell? ⟨S, 1, none⟩ = some (.int .i64 (c 1)) ∧ w'.cell? ⟨S, 2, none⟩ = some (.int .i64 (c 2)) ∧ w'.cell? ⟨S, 3, none⟩ = some (.int .i64 (c 3)) ∧ w'.cell? ⟨S, 4, none⟩ = some (.int .i64 (c 4)) ∧ w'.cell? ⟨S, 5, none⟩ = some (.int .i64 (c 5)) ∧ w'.cell? ⟨S, 6, none⟩ = some (.int .i64 (c 6)) ∧ w'.cell? ⟨S, 7, none⟩ = some (.int .i64 (c 7)) ∧ w'.cell? ⟨S, 8, none⟩ = some (.int .i64 (c 8)) ∧ w'.cell? ⟨X, 0, none⟩ = some (.int .i64 (f 0)) ∧ w'.cell? ⟨X, 1, none⟩ = some (.int .i64 (f 1)) ∧ w'.cell? ⟨X, 2, none⟩ = some (.int .i64 (f 2)) ∧ w'.cell? ⟨X, 3, none⟩ = some (.int .i64 (f 3)) ∧ w'.cell? ⟨X, 4, none⟩ = some (.int .i64 (f 4)) ∧ w'.cell? ⟨X, 5, none⟩ = some (.int .i64 (f 5)) ∧ w'.cell? ⟨X, 6, none⟩ = some (.int .i64 (f 6)) ∧ w'.cell? ⟨X, 7, none⟩ = some (.int .i64 (f 7)) ∧ w'.cell? ⟨X, 8, none⟩ = some (.int .i64 (f 8)) ∧ w'.cell? ⟨Y, 0, none⟩ = some (.int .i64 (f 0)) ∧ w'.cell? ⟨Y, 1, none⟩ = some (.int .i64 (f 1)) ∧ w'.cell? ⟨Y, 2, none⟩ = some (.int .i64 (f 2)) ∧ w'.cell? ⟨Y, 3, none⟩ = some (.int .i64 (f 3)) ∧ w'.cell? ⟨Y, 4, none⟩ = some (.int .i64 (f 4)) ∧ w'.cell? ⟨Y, 5, none⟩ = some (.int .i64 (f 5)) ∧ w'.cell? ⟨Y, 6, none⟩ = some (.int .i64 (f 6)) ∧ w'.cell? ⟨Y, 7, none⟩ = some (.int .i64 (f 7)) ∧ w'.cell? ⟨Y, 8, none⟩ = some (.int .i64 (f 8)) ∧ Keeps [] w w')
    (first | ((try dsimp only); go_split_ands; (repeat' apply And.intro) <;> first | assumption | (exact Keeps.cell (by assumption) (by assumption) (by simp)) | (exact Keeps.nil_trans (by assumption) (by assumption)) | (exact Keeps.drew (by assumption))))
    (first
      | (go_at_call 62; refine (check_calls c _).mono ?_; rintro e w' ⟨rfl, hk⟩)
      | (go_at_call 76; refine (refCheck_calls c _).mono ?_; rintro e w' ⟨rfl, hk⟩)
      | (go_at_call 61; refine (list_calls c _).mono ?_; rintro e w61 ⟨g61, cap61, rfl, hg61, hcs61, hk61⟩; have H61 := Aside.mk hcs61; have HG61 := Aside.mk hg61; clear hcs61 hg61)
      | (go_at_call 78; refine (refList_calls c _).mono ?_; rintro e w78 ⟨g78, cap78, rfl, hg78, hcs78, hk78⟩; have H78 := Aside.mk hcs78; have HG78 := Aside.mk hg78; clear hcs78 hg78)
      | (go_at_call 77; refine (ints_calls ⟨g61, 0, none⟩ ⟨g78, 0, none⟩ cap61 cap78 c _ (fun i hi => by rw [add_zero']; exact Keeps.cell (by assumption) (H61.out i hi) (by simp)) (fun i hi => by rw [add_zero']; exact H78.out i hi)).mono ?_; rintro e w' ⟨rfl, hk⟩)
      | (go_at_call 49; refine (awake37 _).mono ?_; rintro e w' ⟨rfl, hk⟩))
  all_goals
    go_split_ands
    go_wp2_with fail
    go_ret
    exact ⟨rfl, by assumption⟩

/-- Nine numbers. -/
def nine (q0 q1 q2 q3 q4 q5 q6 q7 q8 : Int) : Nat → Int
  | 0 => q0 | 1 => q1 | 2 => q2 | 3 => q3 | 4 => q4 | 5 => q5 | 6 => q6 | 7 => q7 | _ => q8

/-- A slice of numbers with a sign as it lies. -/
def IntsIn (w : World) (a : Option Addr) (z : List Int) : Prop :=
  ∀ i, i < z.length → ∃ x, a = some x ∧ w.cell? (x.add i) = some (.int .i64 (z.getD i 0)) ∧ x.block < w.heap.size

theorem confMay_at (c : Nat → Int) (a : Option Addr) (len cap : Nat) (z : List Int) (hz : z.length = len) (w : World) (hi : IntsIn w a z) :
    Calls Try.prog 17 #[.agg (confCells c), .slice a len cap] w fun e w' => e = .returned (.bool true) ∧ Keeps [] w w' := by
  by_cases h9 : len = 9
  · subst h9
    obtain ⟨x, rfl, hc0, hb⟩ := hi 0 (by omega)
    have hcs : ∀ i, i < 9 → w.cell? (x.add i) = some (.int .i64 (z.getD i 0)) := fun i h => by
      obtain ⟨y, e, hc, _⟩ := hi i (by omega)
      cases e
      exact hc
    refine confMay_go c (ofRes fun i => z.getD i 0) (checkRes fun i => z.getD i 0) (some x) 9 cap w (fun w' k => ?_) (fun w' k => ?_)
    · exact of_nine x cap _ w' (Nat.lt_of_lt_of_le hb k.size) (fun i h => k.cell (hcs i h) (by simp))
    · exact refOf_nine x cap _ w' (Nat.lt_of_lt_of_le hb k.size) (fun i h => k.cell (hcs i h) (by simp))
  · exact confMay_go c (fun _ => 0) 1 a len cap w (fun w' k => of_len a len cap h9 w') (fun w' k => refOf_len a len cap h9 w')

theorem confMay_walk (q0 : Int) (_ : -9223372036854775808 ≤ q0) (_ : q0 ≤ 9223372036854775807) (q1 : Int) (_ : -9223372036854775808 ≤ q1) (_ : q1 ≤ 9223372036854775807) (q2 : Int) (_ : -9223372036854775808 ≤ q2) (_ : q2 ≤ 9223372036854775807) (q3 : Int) (_ : -9223372036854775808 ≤ q3) (_ : q3 ≤ 9223372036854775807) (q4 : Int) (_ : -9223372036854775808 ≤ q4) (_ : q4 ≤ 9223372036854775807) (q5 : Int) (_ : -9223372036854775808 ≤ q5) (_ : q5 ≤ 9223372036854775807) (q6 : Int) (_ : -9223372036854775808 ≤ q6) (_ : q6 ≤ 9223372036854775807) (q7 : Int) (_ : -9223372036854775808 ≤ q7) (_ : q7 ≤ 9223372036854775807) (q8 : Int) (_ : -9223372036854775808 ≤ q8) (_ : q8 ≤ 9223372036854775807) (a : Option Addr) (len cap : Nat) (z : List Int) (hz : z.length = len) (w : World) (hi : IntsIn w a z) :
    Calls Try.prog 17 #[.agg #[.int .i64 q0, .int .i64 q1, .int .i64 q2, .int .i64 q3, .int .i64 q4, .int .i64 q5, .int .i64 q6, .int .i64 q7, .int .i64 q8], .slice a len cap] w fun e w' => e = .returned (.bool true) ∧ Keeps [] w w' :=
  confMay_at (nine q0 q1 q2 q3 q4 q5 q6 q7 q8) a len cap z hz w hi
end Go.Proofs.Ythcjcgagbpfkpaa

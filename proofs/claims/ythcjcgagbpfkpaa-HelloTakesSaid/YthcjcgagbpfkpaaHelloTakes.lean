/- HelloTakes: the body of any hello, and the hello that any bytes are, are the document's. -/
import Derived.Test.YthcjcgagbpfkpaaHelloB
namespace Go.Proofs.Ythcjcgagbpfkpaa
set_option linter.unusedSimpArgs false
set_option linter.unusedVariables false
open Go.RowKit

theorem helloPut_both (ow ep : Int) (tag : Nat) (ho : ow ≤ 9223372036854775807) (hp : ep ≤ 9223372036854775807) (ht : tag < 18446744073709551616) :
    ∃ (s : ByteArray) (e : Nat), (∀ w, Calls Try.prog 63 #[.agg #[.int .i64 ow, .int .i64 ep, .int .u64 tag]] w fun e' w' => e' = .returned (.tuple #[.string s, .int .i64 e]) ∧ Keeps [] w w') ∧
      (∀ w, Calls Try.prog 64 #[.agg #[.int .i64 ow, .int .i64 ep, .int .u64 tag]] w fun e' w' => e' = .returned (.tuple #[.string s, .int .i64 e]) ∧ Keeps [] w w') := by
  by_cases h : ow < 0 ∨ ep < 0
  · exact ⟨⟨#[]⟩, 1, fun w => helloPut_calls_no ow ep tag h w, fun w => rHelloPut_calls_no ow ep tag h w⟩
  · obtain ⟨o, rfl⟩ := Int.eq_ofNat_of_zero_le (show 0 ≤ ow by omega)
    obtain ⟨p, rfl⟩ := Int.eq_ofNat_of_zero_le (show 0 ≤ ep by omega)
    exact ⟨helloText o p tag, 0, fun w => helloPut_calls o p tag (by omega) (by omega) ht w, fun w => rHelloPut_calls o p tag (by omega) (by omega) ht w⟩

set_option maxRecDepth 8000 in
set_option maxHeartbeats 2000000 in
theorem helloTakes_walk (ow : Int) (_ : -9223372036854775808 ≤ ow) (ho : ow ≤ 9223372036854775807) (ep : Int) (_ : -9223372036854775808 ≤ ep) (hp : ep ≤ 9223372036854775807) (tag : Nat) (ht : tag < 18446744073709551616)
    (b : ByteArray) (hb : b.size ≤ 140737488351232) (w : World) :
    Calls Try.prog 13 #[.agg #[.int .i64 ow, .int .i64 ep, .int .u64 tag], .string b] w fun e' w' => e' = .returned (.bool true) ∧ Keeps [] w w' := by
  obtain ⟨s, e, c1, c2⟩ := helloPut_both ow ep tag ho hp ht
  obtain ⟨⟨a, c, n⟩, er, hT⟩ : ∃ x er, helloT b = (x, er) := ⟨_, _, rfl⟩
  have C1 := Aside.mk c1
  have C2 := Aside.mk c2
  have C3 := Aside.mk (fun w => helloTake_calls b hb hT w)
  have C4 := Aside.mk (fun w => rHelloTake_calls b hb hT w)
  clear c1 c2 hT
  have hw0 := Whole.new w 100 #[.int .i64 ow, .int .i64 ep, .int .u64 tag]
  have hk0 := (Keeps.refl [] w).alloc (.cells #[.int .i64 ow, .int .i64 ep, .int .u64 tag] 100)
  go_enter Try.func13, Try.ntmps13
  go_wp2_with fail
  refine (C1.out _).mono ?_
  rintro e' w1 ⟨rfl, hk1⟩
  have hw1 := hk1.whole hw0 (by simp)
  have a0 : w1.cell? ⟨w.heap.size, 0, none⟩ = some (.int .i64 ow) := hw1.cell 0
  have a1 : w1.cell? ⟨w.heap.size, 1, none⟩ = some (.int .i64 ep) := hw1.cell 1
  have a2 : w1.cell? ⟨w.heap.size, 2, none⟩ = some (.int .u64 tag) := hw1.cell 2
  go_wp2_with fail
  refine (C2.out _).mono ?_
  rintro e' w2 ⟨rfl, hk2⟩
  clear a0 a1 a2
  go_wp2_with fail
  refine (C3.out _).mono ?_
  rintro e' w3 ⟨rfl, hk3⟩
  go_wp2_with fail
  refine (C4.out _).mono ?_
  rintro e' w4 ⟨rfl, hk4⟩
  have hw4 := hk4.whole (Whole.new _ _ _) (by simp)
  have hw5 := hw4.alloc (.cells #[.int .i64 a, .int .i64 c, .int .u64 n] 100)
  have b0 : (w4.alloc (.cells #[.int .i64 a, .int .i64 c, .int .u64 n] 100)).cell? ⟨w3.heap.size, 0, none⟩ = some (.int .i64 a) := hw5.cell 0
  have b1 : (w4.alloc (.cells #[.int .i64 a, .int .i64 c, .int .u64 n] 100)).cell? ⟨w3.heap.size, 1, none⟩ = some (.int .i64 c) := hw5.cell 1
  have b2 : (w4.alloc (.cells #[.int .i64 a, .int .i64 c, .int .u64 n] 100)).cell? ⟨w3.heap.size, 2, none⟩ = some (.int .u64 n) := hw5.cell 2
  go_wp2_with fail
  refine (awake22 _).mono ?_
  rintro e' w5 ⟨rfl, hk5⟩
  go_wp2_with fail
  go_ret
  exact ⟨rfl, (((((hk0.nil_trans hk1).nil_trans hk2).nil_trans hk3).alloc _).nil_trans hk4 |>.alloc _).nil_trans hk5⟩

end Go.Proofs.Ythcjcgagbpfkpaa

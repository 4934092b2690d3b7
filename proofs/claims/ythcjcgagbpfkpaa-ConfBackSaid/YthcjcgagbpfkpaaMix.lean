/- dice.Mix and the document's Mix give one number: the exclusive or bit by bit, and the two multiplications. -/
import Derived.Test.YthcjcgagbpfkpaaKit
namespace Go.Proofs.Ythcjcgagbpfkpaa
open Go.RowKit

/-- 20.2 on natural numbers. -/
def mixN (a b : Nat) : Nat :=
  let x := (a ^^^ b) * 11400714819323198485 % 18446744073709551616
  let y := (x ^^^ (x / 536870912)) * 13787848793156543929 % 18446744073709551616
  y ^^^ (y / 4294967296)

theorem xor_lt {a b : Nat} (ha : a < 18446744073709551616) (hb : b < 18446744073709551616) : a ^^^ b < 18446744073709551616 :=
  Nat.xor_lt_two_pow (n := 64) ha hb

theorem mixN_lt (a b : Nat) : mixN a b < 18446744073709551616 := by
  unfold mixN
  refine xor_lt (Nat.mod_lt _ (by decide)) ?_
  exact Nat.lt_of_le_of_lt (Nat.div_le_self _ _) (Nat.mod_lt _ (by decide))

theorem mixN_comm (a b : Nat) : mixN a b = mixN b a := by unfold mixN; simp only [Nat.xor_comm a b]
theorem mixN_self (a : Nat) : mixN a a = 0 := by unfold mixN; simp

theorem u64_wrap_nat (n : Nat) : IntKind.u64.wrap (n : Int) = ((n % 18446744073709551616 : Nat) : Int) := by
  simp [IntKind.wrap, IntKind.bits, IntKind.signed]

/-- One round of the document's exclusive or. -/
theorem xor_round (a b k : Nat) :
    (a ^^^ b) % 2 ^ (k + 1) = (a ^^^ b) % 2 ^ k + if a / 2 ^ k % 2 = b / 2 ^ k % 2 then 0 else 2 ^ k := by
  have hd : (a ^^^ b) / 2 ^ k = (a / 2 ^ k) ^^^ (b / 2 ^ k) := by
    rw [← Nat.shiftRight_eq_div_pow, ← Nat.shiftRight_eq_div_pow, ← Nat.shiftRight_eq_div_pow, Nat.shiftRight_xor_distrib]
  have hm := Nat.xor_mod_two_pow (a := a / 2 ^ k) (b := b / 2 ^ k) (n := 1)
  rw [Nat.pow_one] at hm
  rw [Nat.mod_pow_succ, hd, hm]
  have ha := Nat.mod_two_eq_zero_or_one (a / 2 ^ k)
  have hb := Nat.mod_two_eq_zero_or_one (b / 2 ^ k)
  rcases ha with ha | ha <;> rcases hb with hb | hb <;> simp [ha, hb]


/-- What the slots hold behind k rounds of the document's exclusive or. -/
structure XorAt (a b k x y o p : Nat) : Prop where
  x : x = a / 2 ^ k
  y : y = b / 2 ^ k
  o : o = (a ^^^ b) % 2 ^ k
  p : p = 2 ^ k % 18446744073709551616

theorem xor_mod_lt (a b k : Nat) (hk : k ≤ 64) : (a ^^^ b) % 2 ^ k < 18446744073709551616 :=
  Nat.lt_of_lt_of_le (Nat.mod_lt _ (Nat.pow_pos (by decide))) (Nat.pow_le_pow_right (n := 2) (by decide) hk)

theorem XorAt.next {a b k x y o p : Nat} (h : XorAt a b k x y o p) (he : x % 2 = y % 2) : XorAt a b (k + 1) (x / 2) (y / 2) o (p * 2 % 18446744073709551616) := by
  obtain ⟨rfl, rfl, rfl, rfl⟩ := h
  refine ⟨by rw [Nat.pow_succ, Nat.div_div_eq_div_mul], by rw [Nat.pow_succ, Nat.div_div_eq_div_mul], ?_, ?_⟩
  · rw [xor_round, if_pos he, Nat.add_zero]
  · rw [Nat.pow_succ]; omega

theorem XorAt.add {a b k x y o p : Nat} (hk : k < 64) (h : XorAt a b k x y o p) (he : ¬ x % 2 = y % 2) : o + p < 18446744073709551616 ∧ XorAt a b (k + 1) (x / 2) (y / 2) (o + p) (p * 2 % 18446744073709551616) := by
  obtain ⟨rfl, rfl, rfl, rfl⟩ := h
  have hp : 2 ^ k < 18446744073709551616 := Nat.pow_lt_pow_right (a := 2) (by decide) (show k < 64 from hk)
  have hs : (a ^^^ b) % 2 ^ (k + 1) = (a ^^^ b) % 2 ^ k + 2 ^ k % 18446744073709551616 := by
    rw [xor_round, if_neg he, Nat.mod_eq_of_lt hp]
  refine ⟨by rw [← hs]; exact xor_mod_lt a b (k + 1) (by omega), by rw [Nat.pow_succ, Nat.div_div_eq_div_mul], by rw [Nat.pow_succ, Nat.div_div_eq_div_mul], hs.symm, ?_⟩
  rw [Nat.pow_succ]; omega

set_option maxHeartbeats 1000000 in
theorem xor_calls (a b : Nat) (ha : a < 18446744073709551616) (hb : b < 18446744073709551616) (w : World) :
    Calls Try.prog 94 #[.int .u64 a, .int .u64 b] w fun e w' => e = .returned (.int .u64 ((a ^^^ b : Nat) : Int)) ∧ w = w' := by
  go_enter Try.func94, Try.ntmps94
  go_wp2
  go_loop [0, 1, 5, 6, 7] (fun v0 v1 v5 v6 v7 => ∃ k x y o p : Nat, k ≤ 64 ∧ v0 = .int .u64 x ∧ v1 = .int .u64 y ∧ v5 = .int .u64 o ∧ v6 = .int .u64 p ∧ v7 = .int .i64 k ∧
      x < 18446744073709551616 ∧ y < 18446744073709551616 ∧ o < 18446744073709551616 ∧ p < 18446744073709551616 ∧ Aside (XorAt a b k x y o p))
    (fun _ _ _ _ i => 64 - (intOf i).toNat)
  case atStart => exact ⟨0, a, b, 0, 1, by omega, rfl, rfl, rfl, rfl, rfl, ha, hb, by omega, by omega, ⟨by simp, by simp, by simp [Nat.mod_one], by simp⟩⟩
  case round =>
    obtain ⟨k, x, y, o, p, hk, rfl, rfl, rfl, rfl, rfl, hx, hy, ho, hp, hA⟩ := hrel
    by_cases hlt : k < 64
    · by_cases he : x % 2 = y % 2
      · have hn := Aside.mk (XorAt.next hA.out he)
        have hb1 : (((x : Int) % 2) != ((y : Int) % 2)) = false := by rw [bne_eq_false_iff_eq]; omega
        clear hA he
        go_wp2
        go_round
        case rel => exact ⟨k + 1, x / 2, y / 2, o, p * 2 % 18446744073709551616, by omega, int_u64 (by omega), int_u64 (by omega), rfl, int_u64 (by rw [← u64_wrap_nat]; congr 1), by go_num, by omega, by omega, by omega, by omega, hn⟩
        case measure => simp [intOf]; omega
      · obtain ⟨hop, hn0⟩ := XorAt.add hlt hA.out he
        have hn := Aside.mk hn0
        have hb1 : (((x : Int) % 2) != ((y : Int) % 2)) = true := by rw [bne_iff_ne]; omega
        clear hA he hn0
        go_wp2
        go_round
        case rel => exact ⟨k + 1, x / 2, y / 2, o + p, p * 2 % 18446744073709551616, by omega, int_u64 (by omega), int_u64 (by omega), int_u64 (by omega), int_u64 (by rw [← u64_wrap_nat]; congr 1), by go_num, by omega, by omega, by omega, by omega, hn⟩
        case measure => simp [intOf]; omega
    · obtain rfl : k = 64 := by omega
      have hn : o = a ^^^ b := by rw [hA.out.o]; exact Nat.mod_eq_of_lt (xor_lt ha hb)
      have HN := Aside.mk hn
      clear hn hA
      go_wp2
      go_ret
      exact ⟨ret_int (by rw [HN.out]), rfl⟩


set_option maxHeartbeats 1000000 in
theorem refMix_calls (a b : Nat) (ha : a < 18446744073709551616) (hb : b < 18446744073709551616) (w : World) :
    Calls Try.prog 39 #[.int .u64 a, .int .u64 b] w fun e w' => e = .returned (.int .u64 (mixN a b)) ∧ w = w' := by
  obtain ⟨x1, hx1, hl1⟩ : ∃ x1, x1 = a ^^^ b ∧ x1 < 18446744073709551616 := ⟨_, rfl, xor_lt ha hb⟩
  obtain ⟨x2, hx2, hl2⟩ : ∃ x2, x2 = x1 * 11400714819323198485 % 18446744073709551616 ∧ x2 < 18446744073709551616 := ⟨_, rfl, Nat.mod_lt _ (by decide)⟩
  obtain ⟨x3, hx3, hl3⟩ : ∃ x3, x3 = x2 ^^^ (x2 / 536870912) ∧ x3 < 18446744073709551616 := ⟨_, rfl, xor_lt hl2 (by omega)⟩
  obtain ⟨x4, hx4, hl4⟩ : ∃ x4, x4 = x3 * 13787848793156543929 % 18446744073709551616 ∧ x4 < 18446744073709551616 := ⟨_, rfl, Nat.mod_lt _ (by decide)⟩
  have hfin : mixN a b = x4 ^^^ (x4 / 4294967296) := by rw [hx4, hx3, hx2, hx1]; rfl
  rw [hfin]
  have c1 := fun w => xor_calls a b ha hb w
  rw [← hx1] at c1
  have c2 := fun w => xor_calls x2 (x2 / 536870912) hl2 (by omega) w
  rw [← hx3] at c2
  have c3 := fun w => xor_calls x4 (x4 / 4294967296) hl4 (by omega) w
  have e2 : IntKind.u64.wrap ((x1 : Int) * 11400714819323198485) = x2 := by rw [hx2, ← u64_wrap_nat]; congr 1
  have e4 : IntKind.u64.wrap ((x3 : Int) * 13787848793156543929) = x4 := by rw [hx4, ← u64_wrap_nat]; congr 1
  have hd2 : ((x2 / 536870912 : Nat) : Int) = (x2 : Int) / 536870912 := by omega
  have hd4 : ((x4 / 4294967296 : Nat) : Int) = (x4 : Int) / 4294967296 := by omega
  rw [hd2] at c2
  rw [hd4] at c3
  clear hx1 hx2 hx3 hx4 hfin hd2 hd4
  have C1 := Aside.mk c1
  have C2 := Aside.mk c2
  have C3 := Aside.mk c3
  clear c1 c2 c3
  go_enter Try.func39, Try.ntmps39
  go_wp2_with fail
  refine (C1.out _).mono ?_
  rintro e w' ⟨rfl, rfl⟩
  go_wp2_with fail
  refine (C2.out _).mono ?_
  rintro e w' ⟨rfl, rfl⟩
  go_wp2_with fail
  refine (C3.out _).mono ?_
  rintro e w' ⟨rfl, rfl⟩
  go_wp2_with fail
  go_ret
  exact ⟨rfl, rfl⟩

set_option maxHeartbeats 1000000 in
theorem mix_calls (a b : Nat) (ha : a < 18446744073709551616) (hb : b < 18446744073709551616) (w : World) :
    Calls Try.prog 38 #[.int .u64 a, .int .u64 b] w fun e w' => e = .returned (.int .u64 (mixN a b)) ∧ w = w' := by
  obtain ⟨x1, hx1, hl1⟩ : ∃ x1, x1 = a ^^^ b ∧ x1 < 18446744073709551616 := ⟨_, rfl, xor_lt ha hb⟩
  obtain ⟨x2, hx2, hl2⟩ : ∃ x2, x2 = x1 * 11400714819323198485 % 18446744073709551616 ∧ x2 < 18446744073709551616 := ⟨_, rfl, Nat.mod_lt _ (by decide)⟩
  obtain ⟨x3, hx3, hl3⟩ : ∃ x3, x3 = x2 ^^^ (x2 / 536870912) ∧ x3 < 18446744073709551616 := ⟨_, rfl, xor_lt hl2 (by omega)⟩
  obtain ⟨x4, hx4, hl4⟩ : ∃ x4, x4 = x3 * 13787848793156543929 % 18446744073709551616 ∧ x4 < 18446744073709551616 := ⟨_, rfl, Nat.mod_lt _ (by decide)⟩
  have hfin : mixN a b = x4 ^^^ (x4 / 4294967296) := by rw [hx4, hx3, hx2, hx1]; rfl
  rw [hfin]
  have e2 : IntKind.u64.wrap ((x1 : Int) * 11400714819323198485) = x2 := by rw [hx2, ← u64_wrap_nat]; congr 1
  have e4 : IntKind.u64.wrap ((x3 : Int) * 13787848793156543929) = x4 := by rw [hx4, ← u64_wrap_nat]; congr 1
  have hd2 : ((x2 / 536870912 : Nat) : Int) = (x2 : Int) / 536870912 := by omega
  have hd4 : ((x4 / 4294967296 : Nat) : Int) = (x4 : Int) / 4294967296 := by omega
  have c1 : bits .xor .u64 (a : Int) (b : Int) = (x1 : Int) := by rw [hx1]; exact u64_xor_nat a b ha hb
  have c2 : bits .xor .u64 (x2 : Int) ((x2 : Int) / 536870912) = (x3 : Int) := by rw [hx3, ← hd2]; exact u64_xor_nat _ _ hl2 (by omega)
  have c3 : bits .xor .u64 (x4 : Int) ((x4 : Int) / 4294967296) = ((x4 ^^^ (x4 / 4294967296) : Nat) : Int) := by rw [← hd4]; exact u64_xor_nat _ _ hl4 (by omega)
  clear hx1 hx2 hx3 hx4 hfin hd2 hd4
  go_enter Try.func38, Try.ntmps38
  go_wp2
  go_ret
  exact ⟨rfl, rfl⟩

end Go.Proofs.Ythcjcgagbpfkpaa

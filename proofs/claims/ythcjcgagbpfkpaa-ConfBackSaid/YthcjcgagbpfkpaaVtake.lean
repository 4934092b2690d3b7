/- The number with whose bytes a text begins: varint.Take and the document's Take give one answer for every text. -/
import Derived.Test.YthcjcgagbpfkpaaVput
import Derived.Test.YthcjcgagbpfkpaaMix
namespace Go.Proofs.Ythcjcgagbpfkpaa
set_option linter.unusedSimpArgs false
set_option linter.unusedVariables false
open Go.RowKit

/-- 1.1: from byte i on, n so far: the number, how many bytes, the error (0 ok, 1 form, 2 short). -/
def tk : List UInt8 → Nat → Nat → Nat × Nat × Nat
  | [], _, _ => (0, 0, 2)
  | c :: l, i, n =>
    if 10 ≤ i then (0, 0, 2)
    else if (0 < i ∧ c.toNat = 0) ∨ (i = 9 ∧ 1 < c.toNat) then (0, 0, 1)
    else if c.toNat < 128 then (n + c.toNat % 128 * 128 ^ i, i + 1, 0)
    else tk l (i + 1) (n + c.toNat % 128 * 128 ^ i)

def vtake (s : ByteArray) : Nat × Nat × Nat := tk s.data.toList 0 0

theorem tk_end (l : List UInt8) (n : Nat) : tk l 10 n = (0, 0, 2) := by
  cases l with
  | nil => rfl
  | cons c l => simp [tk]
theorem drop_cons (s : ByteArray) (i : Nat) (h : i < s.size) : s.data.toList.drop i = s[i] :: s.data.toList.drop (i + 1) := by
  have h' : i < s.data.toList.length := by simpa using h
  rw [List.drop_eq_getElem_cons h']
  rfl

theorem pow_128 (k : Nat) : (128 : Nat) ^ k = 2 ^ (7 * k) := by rw [show (128 : Nat) = 2 ^ 7 from rfl, ← Nat.pow_mul]

/-- What a byte adds to the number so far. -/
theorem or_step {n c k : Nat} (hn : n < 128 ^ k) (hk : k < 10) (hc : c < 256) (h9 : k = 9 → c ≤ 1) :
    bits .or .u64 (n : Int) (IntKind.u64.wrap ((c : Int) % 128 * 2 ^ (7 * k))) = ((n + c % 128 * 128 ^ k : Nat) : Int) ∧ n + c % 128 * 128 ^ k < 128 ^ (k + 1) ∧ n + c % 128 * 128 ^ k < 18446744073709551616 := by
  have h1 : n + c % 128 * 128 ^ k < 128 ^ (k + 1) := by
    have h2 : c % 128 * 128 ^ k ≤ 127 * 128 ^ k := Nat.mul_le_mul_right _ (by omega)
    rw [Nat.pow_succ]
    omega
  have h3 : n + c % 128 * 128 ^ k < 18446744073709551616 := by
    by_cases hk9 : k = 9
    · have hcc := h9 hk9
      subst hk9
      have : c % 128 ≤ 1 := by omega
      have h2 : c % 128 * 128 ^ 9 ≤ 1 * 128 ^ 9 := Nat.mul_le_mul_right _ this
      have e : (128 : Nat) ^ 9 = 9223372036854775808 := by decide
      rw [e] at h2 hn ⊢
      omega
    · refine Nat.lt_of_lt_of_le h1 ?_
      have : (128 : Nat) ^ (k + 1) ≤ 128 ^ 9 := Nat.pow_le_pow_right (by decide) (by omega)
      exact Nat.le_trans this (by decide)
  refine ⟨?_, h1, h3⟩
  have hw : (c : Int) % 128 * 2 ^ (7 * k) = ((c % 128 * 128 ^ k : Nat) : Int) := by
    rw [pow_128]
    simp
  rw [hw, u64_wrap_nat, Nat.mod_eq_of_lt (by omega)]
  refine (u64_or_nat n _ (by omega) (by omega)).trans ?_
  congr 1
  rw [Nat.or_comm, nat_join (7 * k) _ _ (by rw [pow_128]; exact Nat.mul_mod_left _ _) (by rw [← pow_128]; exact hn), Nat.add_comm]

theorem tk_bad {s : ByteArray} {k n : Nat} (hks : k < s.size) (hk : k < 10) (hf : (0 < k ∧ s[k].toNat = 0) ∨ (k = 9 ∧ 1 < s[k].toNat)) : tk (s.data.toList.drop k) k n = (0, 0, 1) := by
  rw [drop_cons s k hks, tk, if_neg (by omega), if_pos hf]
theorem tk_last {s : ByteArray} {k n : Nat} (hks : k < s.size) (hk : k < 10) (hf : ¬ ((0 < k ∧ s[k].toNat = 0) ∨ (k = 9 ∧ 1 < s[k].toNat))) (h : s[k].toNat < 128) :
    tk (s.data.toList.drop k) k n = (n + s[k].toNat % 128 * 128 ^ k, k + 1, 0) := by
  rw [drop_cons s k hks, tk, if_neg (by omega), if_neg hf, if_pos h]
theorem tk_next {s : ByteArray} {k n : Nat} (hks : k < s.size) (hk : k < 10) (hf : ¬ ((0 < k ∧ s[k].toNat = 0) ∨ (k = 9 ∧ 1 < s[k].toNat))) (h : ¬ s[k].toNat < 128) :
    tk (s.data.toList.drop k) k n = tk (s.data.toList.drop (k + 1)) (k + 1) (n + s[k].toNat % 128 * 128 ^ k) := by
  rw [drop_cons s k hks, tk, if_neg (by omega), if_neg hf, if_neg h]
theorem tk_over {s : ByteArray} {n k : Nat} (hk : k = min s.size 10) : tk (s.data.toList.drop k) k n = (0, 0, 2) := by
  by_cases h : s.size ≤ 10
  · rw [List.drop_eq_nil_of_le (by simp; omega)]; rfl
  · obtain rfl : k = 10 := by omega
    exact tk_end _ _

theorem ret3 {a b c a' b' c' : Nat} (h : (a, b, c) = (a', b', c')) :
    Ending.returned (.tuple #[.int .u64 (a : Int), .int .i64 (b : Int), .int .i64 (c : Int)]) = .returned (.tuple #[.int .u64 (a' : Int), .int .i64 (b' : Int), .int .i64 (c' : Int)]) := by
  simp only [Prod.mk.injEq] at h
  obtain ⟨rfl, rfl, rfl⟩ := h
  rfl

set_option maxRecDepth 4000 in
set_option maxHeartbeats 2000000 in
theorem vTake_calls (s : ByteArray) (hs : s.size ≤ 1152921504606846976) (w : World) :
    Calls Try.prog 95 #[.string s] w fun e w' => e = .returned (.tuple #[.int .u64 ((vtake s).1 : Nat), .int .i64 ((vtake s).2.1 : Nat), .int .i64 ((vtake s).2.2 : Nat)]) ∧ w = w' := by
  obtain ⟨m, hm⟩ : ∃ m : Nat, m = min s.size 10 := ⟨_, rfl⟩
  have hm1 : m ≤ s.size := by omega
  have hm2 : m ≤ 10 := by omega
  have hmm : (if 10 < (s.size : Int) then (10 : Int) else (s.size : Int)) = (m : Int) := by split <;> omega
  have HM := Aside.mk hm
  clear hm
  go_enter Try.func95, Try.ntmps95
  go_wp2
  go_loop [5, 11] (fun v5 v11 => ∃ (k n : Nat), k ≤ m ∧ v5 = .int .u64 n ∧ v11 = .int .i64 k ∧ n < 18446744073709551616 ∧ Aside (n < 128 ^ k ∧ tk (s.data.toList.drop k) k n = vtake s))
    (fun _ i => m - (intOf i).toNat)
  case atStart => exact ⟨0, 0, by omega, rfl, rfl, by omega, ⟨by omega, rfl⟩⟩
  case round =>
    obtain ⟨k, n, hk, rfl, rfl, hn, hA⟩ := hrel
    by_cases hlt : k < m
    · have hks : k < s.size := by omega
      have hk10 : k < 10 := by omega
      have hc : s[k].toNat < 256 := s[k].toNat_lt
      have hand : bits .and .u8 (s[k].toNat : Int) 127 = ((s[k].toNat % 128 : Nat) : Int) := by
        refine (u8_and_nat _ 127 hc (by decide)).trans ?_
        rw [nat_mask7]
      by_cases hf : (0 < k ∧ s[k].toNat = 0) ∨ (k = 9 ∧ 1 < s[k].toNat)
      · have hR : vtake s = (0, 0, 1) := by rw [← hA.out.2]; exact tk_bad hks hk10 hf
        have HR := Aside.mk hR
        have hcase : (((k : Int) == 9) = true ∧ decide ((1 : Int) < (s[k].toNat : Int)) = true) ∨
            (((k : Int) == 9) = true ∧ decide ((1 : Int) < (s[k].toNat : Int)) = false ∧ ((s[k].toNat : Int) == 0) = true ∧ 0 < k) ∨
            (((k : Int) == 9) = false ∧ ((s[k].toNat : Int) == 0) = true ∧ 0 < k) := by
          simp only [beq_iff_eq, beq_eq_false_iff_ne, decide_eq_true_eq, decide_eq_false_iff_not]
          omega
        clear hR hf hA
        rcases hcase with ⟨b1, b2⟩ | ⟨b1, b2, b3, b4⟩ | ⟨b1, b3, b4⟩
        all_goals
          go_wp2
          go_ret3
          exact ⟨ret3 HR.out.symm, rfl⟩
      · have hcase : (((k : Int) == 9) = true ∧ decide ((1 : Int) < (s[k].toNat : Int)) = false ∧ ((s[k].toNat : Int) == 0) = false) ∨
            (((k : Int) == 9) = false ∧ ((s[k].toNat : Int) == 0) = false) ∨
            (((k : Int) == 9) = false ∧ ((s[k].toNat : Int) == 0) = true ∧ decide (0 < k) = false) := by
          simp only [beq_iff_eq, beq_eq_false_iff_ne, decide_eq_true_eq, decide_eq_false_iff_not]
          omega
        obtain ⟨n', hn'⟩ : ∃ n' : Nat, n' = n + s[k].toNat % 128 * 128 ^ k := ⟨_, rfl⟩
        obtain ⟨hor, hn1, hn2⟩ := or_step (c := s[k].toNat) hA.out.1 hk10 hc (fun h9 => by omega)
        rw [← hn'] at hor hn1 hn2
        have HN := Aside.mk hn1
        by_cases h128 : s[k].toNat < 128
        · have hR : vtake s = (n', k + 1, 0) := by rw [← hA.out.2, hn']; exact tk_last hks hk10 hf h128
          have HR := Aside.mk hR
          clear hR hf hA hn' hn1
          rcases hcase with ⟨b1, b2, b3⟩ | ⟨b1, b3⟩ | ⟨b1, b3, b4⟩
          all_goals
            go_wp2
            go_ret3
            exact ⟨ret3 HR.out.symm, rfl⟩
        · have hR : tk (s.data.toList.drop (k + 1)) (k + 1) n' = vtake s := by rw [← hA.out.2, hn']; exact (tk_next hks hk10 hf h128).symm
          have HR := Aside.mk (And.intro hn1 hR)
          clear hR hf hA hn' hn1
          rcases hcase with ⟨b1, b2, b3⟩ | ⟨b1, b3⟩ | ⟨b1, b3, b4⟩
          all_goals
            go_wp2
            go_round
            case rel => exact ⟨k + 1, n', by omega, rfl, by go_num, hn2, HR⟩
            case measure => simp [intOf]; omega
    · have hR : vtake s = (0, 0, 2) := by rw [← hA.out.2]; exact tk_over (by have := HM.out; omega)
      have HR := Aside.mk hR
      clear hR hA
      go_wp2
      go_ret3
      exact ⟨ret3 HR.out.symm, rfl⟩


theorem pow_mod (k : Nat) (hk : k < 10) : (128 : Nat) ^ k % 18446744073709551616 = 128 ^ k :=
  Nat.mod_eq_of_lt (Nat.lt_of_le_of_lt (Nat.pow_le_pow_right (by decide) (show k ≤ 9 by omega)) (by decide))

set_option maxRecDepth 4000 in
set_option maxHeartbeats 2000000 in
theorem rTake_calls (s : ByteArray) (hs : s.size ≤ 1152921504606846976) (w : World) :
    Calls Try.prog 103 #[.string s] w fun e w' => e = .returned (.tuple #[.int .u64 ((vtake s).1 : Nat), .int .i64 ((vtake s).2.1 : Nat), .int .i64 ((vtake s).2.2 : Nat)]) ∧ w = w' := by
  go_enter Try.func103, Try.ntmps103
  go_wp2
  go_loop [5, 6, 7] (fun v5 v6 v7 => ∃ (k n p : Nat), k ≤ s.size ∧ k ≤ 10 ∧ v5 = .int .u64 n ∧ v6 = .int .u64 p ∧ v7 = .int .i64 k ∧ n < 18446744073709551616 ∧ p < 18446744073709551616 ∧
      Aside (n < 128 ^ k ∧ tk (s.data.toList.drop k) k n = vtake s ∧ p = 128 ^ k % 18446744073709551616))
    (fun _ _ i => 10 - (intOf i).toNat)
  case atStart => exact ⟨0, 0, 1, by omega, by omega, rfl, rfl, rfl, by omega, by omega, ⟨by omega, rfl, by decide⟩⟩
  case round =>
    obtain ⟨k, n, p, hk, hk', rfl, rfl, rfl, hn, hp, hA⟩ := hrel
    by_cases hlt : k < s.size ∧ k < 10
    · obtain ⟨hks, hk10⟩ := hlt
      have hc : s[k].toNat < 256 := s[k].toNat_lt
      by_cases hf : (0 < k ∧ s[k].toNat = 0) ∨ (k = 9 ∧ 1 < s[k].toNat)
      · have hR : vtake s = (0, 0, 1) := by rw [← hA.out.2.1]; exact tk_bad hks hk10 hf
        have HR := Aside.mk hR
        have hcase : (0 < k ∧ ((s[k].toNat : Int) == 0) = true) ∨
            (0 < k ∧ ((s[k].toNat : Int) == 0) = false ∧ ((k : Int) == 9) = true ∧ decide ((1 : Int) < (s[k].toNat : Int)) = true) := by
          simp only [beq_iff_eq, beq_eq_false_iff_ne, decide_eq_true_eq, decide_eq_false_iff_not]
          omega
        clear hR hf hA
        rcases hcase with ⟨b1, b2⟩ | ⟨b1, b2, b3, b4⟩
        all_goals
          go_wp2
          go_ret3
          exact ⟨ret3 HR.out.symm, rfl⟩
      · have hcase : (decide (0 < k) = false ∧ ((k : Int) == 9) = false) ∨ (0 < k ∧ ((s[k].toNat : Int) == 0) = false ∧ ((k : Int) == 9) = false) ∨
            (0 < k ∧ ((s[k].toNat : Int) == 0) = false ∧ ((k : Int) == 9) = true ∧ decide ((1 : Int) < (s[k].toNat : Int)) = false) := by
          simp only [beq_iff_eq, beq_eq_false_iff_ne, decide_eq_true_eq, decide_eq_false_iff_not]
          omega
        obtain ⟨x, hx⟩ : ∃ x : Nat, x = s[k].toNat % 128 * 128 ^ k := ⟨_, rfl⟩
        obtain ⟨_, hn1, hn2⟩ := or_step (c := s[k].toNat) hA.out.1 hk10 hc (fun h9 => by omega)
        rw [← hx] at hn1 hn2
        have hmul : IntKind.u64.wrap ((s[k].toNat : Int) % 128 * (p : Int)) = (x : Int) := by
          rw [show (s[k].toNat : Int) % 128 * (p : Int) = ((s[k].toNat % 128 * p : Nat) : Int) by simp, u64_wrap_nat, hA.out.2.2, pow_mod k hk10, ← hx, Nat.mod_eq_of_lt (by omega)]
        obtain ⟨p', hp', hpl⟩ : ∃ p' : Nat, p' = p * 128 % 18446744073709551616 ∧ p' < 18446744073709551616 := ⟨_, rfl, Nat.mod_lt _ (by decide)⟩
        have hpp : IntKind.u64.wrap ((p : Int) * 128) = (p' : Int) := by
          rw [hp', ← u64_wrap_nat]
          congr 1
        have HP : Aside (p' = 128 ^ (k + 1) % 18446744073709551616) := ⟨by rw [hp', hA.out.2.2, Nat.pow_succ, Nat.mod_mul_mod]⟩
        by_cases h128 : s[k].toNat < 128
        · have hR : vtake s = (n + x, k + 1, 0) := by rw [← hA.out.2.1, hx]; exact tk_last hks hk10 hf h128
          have HR := Aside.mk hR
          clear hR hf hA hx hn1 hp'
          rcases hcase with ⟨b1, b2⟩ | ⟨b1, b2, b3⟩ | ⟨b1, b2, b3, b4⟩
          all_goals
            go_wp2
            go_ret3
            exact ⟨ret3 HR.out.symm, rfl⟩
        · have hR : tk (s.data.toList.drop (k + 1)) (k + 1) (n + x) = vtake s := by rw [← hA.out.2.1, hx]; exact (tk_next hks hk10 hf h128).symm
          have HR := Aside.mk (And.intro hn1 (And.intro hR HP.out))
          clear hR hf hA hx hn1 hp' HP
          rcases hcase with ⟨b1, b2⟩ | ⟨b1, b2, b3⟩ | ⟨b1, b2, b3, b4⟩
          all_goals
            go_wp2
            go_round
            case rel => exact ⟨k + 1, n + x, p', by omega, by omega, by go_num, rfl, by go_num, hn2, hpl, HR⟩
            case measure => simp [intOf]; omega
    · have hR : vtake s = (0, 0, 2) := by rw [← hA.out.2.1]; exact tk_over (by omega)
      have HR := Aside.mk hR
      clear hR hA
      have hcase : k = s.size ∨ (k < s.size ∧ k = 10) := by omega
      rcases hcase with h | ⟨h1, h⟩
      · have h2 : s.size ≤ k := by omega
        have h3 : k ≤ s.size := by omega
        clear h hlt
        go_wp2
        go_ret3
        exact ⟨ret3 HR.out.symm, rfl⟩
      · have h2 : 10 ≤ k := by omega
        clear h hlt
        go_wp2
        go_ret3
        exact ⟨ret3 HR.out.symm, rfl⟩

end Go.Proofs.Ythcjcgagbpfkpaa

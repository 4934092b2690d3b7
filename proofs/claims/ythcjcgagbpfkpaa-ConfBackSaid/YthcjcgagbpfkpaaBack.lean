/- What is put is taken, and what is taken is put: numbers' bytes and spans, in plain Lean. -/
import Derived.Test.YthcjcgagbpfkpaaReadAt
namespace Go.Proofs.Ythcjcgagbpfkpaa
set_option linter.unusedSimpArgs false
set_option linter.unusedVariables false

theorem vput_ne (n : Nat) : vput n ≠ [] := by
  rw [vput]
  split <;> simp

/-- Reading a number's bytes from byte i on. -/
theorem tk_vput (m : Nat) : ∀ (i acc : Nat) (l : List UInt8), m * 128 ^ i < 18446744073709551616 → (0 < i → m ≠ 0) → i ≤ 9 →
    tk (vput m ++ l) i acc = (acc + m * 128 ^ i, i + (vput m).length, 0) := by
  induction m using Nat.strongRecOn with
  | _ m ih =>
    intro i acc l hm h0 hi
    by_cases h : m < 128
    · rw [vput_lt h]
      have hb := b8_nat (n := m) (by omega)
      have h9 : ¬ (i = 9 ∧ 1 < m) := by
        rintro ⟨rfl, h1⟩
        have : 2 * 128 ^ 9 ≤ m * 128 ^ 9 := Nat.mul_le_mul_right _ (by omega)
        have e : (2 : Nat) * 128 ^ 9 = 18446744073709551616 := by decide
        omega
      simp only [List.singleton_append, tk, hb]
      rw [if_neg (by omega), if_neg (by omega), if_pos h, Nat.mod_eq_of_lt h]
      rfl
    · rw [vput_ge h]
      have hb := b8_nat (n := m % 128 + 128) (by omega)
      have hi9 : i ≠ 9 := by
        rintro rfl
        have : 128 * 128 ^ 9 ≤ m * 128 ^ 9 := Nat.mul_le_mul_right _ (by omega)
        have e : (128 : Nat) * 128 ^ 9 = 1180591620717411303424 := by decide
        omega
      have hd : m / 128 * 128 ^ (i + 1) ≤ m * 128 ^ i := by
        rw [Nat.pow_succ, ← Nat.mul_assoc, Nat.mul_right_comm]
        exact Nat.mul_le_mul_right _ (Nat.div_mul_le_self m 128)
      simp only [List.cons_append, tk, hb]
      rw [if_neg (by omega), if_neg (by omega), if_neg (by omega), ih (m / 128) (by omega) (i + 1) _ l (by omega) (fun _ => by omega) (by omega)]
      have e1 : (m % 128 + 128) % 128 = m % 128 := by omega
      have e2 : m % 128 * 128 ^ i + m / 128 * 128 ^ (i + 1) = m * 128 ^ i := by
        rw [Nat.pow_succ, ← Nat.mul_assoc, Nat.mul_right_comm (m / 128), ← Nat.add_mul]
        congr 1
        omega
      simp only [e1, List.length_cons, Prod.mk.injEq, and_true]
      omega

/-- What was taken are the number's bytes. -/
theorem tk_back (l : List UInt8) : ∀ (i acc n k : Nat), tk l i acc = (n, k, 0) → ∃ m, n = acc + m * 128 ^ i ∧ (0 < i → m ≠ 0) ∧ k = i + (vput m).length ∧ vput m <+: l := by
  induction l with
  | nil => intro i acc n k h; simp [tk] at h
  | cons c l ih =>
    intro i acc n k h
    rw [tk] at h
    by_cases h1 : 10 ≤ i
    · rw [if_pos h1] at h; simp at h
    · rw [if_neg h1] at h
      by_cases h2 : (0 < i ∧ c.toNat = 0) ∨ (i = 9 ∧ 1 < c.toNat)
      · rw [if_pos h2] at h; simp at h
      · rw [if_neg h2] at h
        have hc : c.toNat < 256 := c.toNat_lt
        by_cases h3 : c.toNat < 128
        · rw [if_pos h3] at h
          simp only [Prod.mk.injEq, and_true] at h
          refine ⟨c.toNat, by rw [← h.1, Nat.mod_eq_of_lt h3], by omega, by rw [vput_lt h3]; simp; omega, ?_⟩
          rw [vput_lt h3, b8_self]
          exact ⟨l, rfl⟩
        · rw [if_neg h3] at h
          obtain ⟨m, hn, hm0, hk, t, ht⟩ := ih _ _ _ _ h
          have hm : m ≠ 0 := hm0 (by omega)
          have hge : ¬ (c.toNat % 128 + 128 * m) < 128 := by omega
          have hv : vput (c.toNat % 128 + 128 * m) = c :: vput m := by
            rw [vput_ge hge]
            have e1 : (c.toNat % 128 + 128 * m) % 128 + 128 = c.toNat := by omega
            have e2 : (c.toNat % 128 + 128 * m) / 128 = m := by omega
            rw [e1, e2, b8_self]
          refine ⟨c.toNat % 128 + 128 * m, ?_, by omega, by rw [hv]; simp; omega, ?_⟩
          · rw [hn, Nat.pow_succ, Nat.add_mul, Nat.mul_right_comm 128, Nat.add_assoc]
            congr 2
            rw [Nat.mul_comm (128 ^ i) 128, ← Nat.mul_assoc, Nat.mul_comm m 128, Nat.mul_right_comm]
          · rw [hv]
            exact ⟨t, by rw [List.cons_append, ht]⟩

theorem txt_cat (l : List UInt8) (s : ByteArray) : (txt l ++ s).data.toList = l ++ s.data.toList := by simp [txt]

/-- 1.4: what is put is taken, whatever stands behind it. -/
theorem vtake_put {n : Nat} (hn : n < 18446744073709551616) (s : ByteArray) : vtake (txt (vput n) ++ s) = (n, (vput n).length, 0) := by
  unfold vtake
  rw [txt_cat, tk_vput n 0 0 _ (by simpa using hn) (by omega) (by omega)]
  simp

/-- 1.4: of what is taken the bytes are those that were there. -/
theorem vtake_back {s : ByteArray} {n k : Nat} (h : vtake s = (n, k, 0)) : s = txt (vput n) ++ s.extract k s.size ∧ k = (vput n).length ∧ k ≤ s.size := by
  obtain ⟨m, hn, _, hk, t, ht⟩ := tk_back _ _ _ _ _ h
  simp at hn hk
  subst hn
  have hs : s = txt (vput n ++ t) := by rw [ht]; exact (txt_of s).symm
  refine ⟨?_, hk, ?_⟩
  · have he : s.extract k s.size = txt t := by
      have hz : (txt (vput n ++ t)).size = (vput n).length + t.length := by rw [txt_size, List.length_append]
      rw [hs, hk, hz]
      apply ByteArray.ext
      apply Array.ext'
      simp [txt]
    rw [he, txt_append]
    exact hs
  · rw [hs, txt_size, hk]
    simp

theorem ba_append_assoc (a b c : ByteArray) : a ++ b ++ c = a ++ (b ++ c) := ByteArray.append_assoc
theorem ba_len (a : ByteArray) : a.data.toList.length = a.size := by rw [Array.length_toList]; rfl
theorem extract_put {a s : ByteArray} {p : Nat} (h : p = a.size) : (a ++ s).extract p (a ++ s).size = s := by
  subst h
  apply ByteArray.ext
  apply Array.ext'
  simp
  rw [List.drop_eq_nil_of_le (by rw [ba_len]; omega), List.take_nil, List.nil_append, List.take_of_length_le (by rw [ba_len]; omega)]
theorem extract_at {b : ByteArray} {p q : Nat} {x s : ByteArray} (h : b.extract p b.size = x ++ s) (hp : p ≤ b.size) (hq : q = p + x.size) : b.extract q b.size = s := by
  have hs : (b.extract p b.size).size = b.size - p := by rw [ByteArray.size_extract]; omega
  have hs2 : b.size - p = x.size + s.size := by rw [← hs, h, ByteArray.size_append]
  have : (b.extract p b.size).extract x.size (b.extract p b.size).size = s := by
    rw [h]
    exact extract_put rfl
  rw [← this, hs, ByteArray.extract_extract]
  congr 1
  omega

/-- 2.3: a span that was put is taken. -/
theorem spanT_put {a : ByteArray} {most : Int} (ha : a.size < 18446744073709551616) (hm : a.size ≤ most.toNat) (s : ByteArray) : spanT (spanText a ++ s) most = (a, (spanText a).size, 0) := by
  have hv : vtake (spanText a ++ s) = (a.size, (vput a.size).length, 0) := by
    unfold spanText
    rw [ba_append_assoc]
    exact vtake_put ha _
  have hi : intT (spanText a ++ s) most = (a.size, (vput a.size).length, 0) := by
    unfold intT
    rw [hv]
    simp
    omega
  have hz : (spanText a).size = (vput a.size).length + a.size := by rw [spanText, ByteArray.size_append, txt_size]
  unfold spanT
  rw [hi]
  simp only [ne_eq, not_true_eq_false, if_false]
  rw [if_neg (by rw [ByteArray.size_append, hz]; omega)]
  simp only [Prod.mk.injEq, and_true]
  refine ⟨?_, hz.symm⟩
  unfold spanText
  apply ByteArray.ext
  apply Array.ext'
  simp [txt]
  rw [List.take_of_length_le (by rw [ba_len]; omega)]

/-- A span that was taken is put so. -/
theorem spanT_back {s a : ByteArray} {most : Int} {k : Nat} (h : spanT s most = (a, k, 0)) : s = spanText a ++ s.extract k s.size ∧ k = (spanText a).size ∧ k ≤ s.size ∧ a.size ≤ most.toNat := by
  have ok := intT_ok s most
  unfold spanT at h
  by_cases h0 : (intT s most).2.2 ≠ 0
  · rw [if_pos h0] at h
    simp only [Prod.mk.injEq] at h
    exact absurd h.2.2 h0
  · rw [if_neg h0] at h
    by_cases h1 : s.size - (intT s most).2.1 < (intT s most).1
    · rw [if_pos h1] at h
      simp at h
    · rw [if_neg h1] at h
      have hv := intT_val s most (by simpa using h0)
      obtain ⟨n, j, e, hq⟩ := trip_ex (vtake s)
      have he : e = 0 := by
        have : (intT s most).2.2 = 0 := by simpa using h0
        unfold intT at this
        rw [hq] at this
        by_cases hz : e = 0
        · exact hz
        · rw [if_pos hz] at this; exact this
      subst he
      rw [hq] at hv
      dsimp only at hv
      rw [← hv.1, ← hv.2] at h h1
      have hn : n ≤ most.toNat := by rw [hv.1]; exact ok.n
      simp only [Prod.mk.injEq, and_true] at h
      obtain ⟨ha, hk⟩ := h
      obtain ⟨hs, hj, hjl⟩ := vtake_back hq
      have hasz : a.size = n := by rw [← ha, ByteArray.size_extract]; omega
      have hput : spanText a = s.extract 0 k := by
        unfold spanText
        rw [hasz]
        have e1 : txt (vput n) = s.extract 0 j := by
          have : (txt (vput n) ++ s.extract j s.size).extract 0 j = txt (vput n) := by
            apply ByteArray.ext
            apply Array.ext'
            simp [txt, hj]
          rw [← hs] at this
          exact this.symm
        rw [e1, ← ha, ← hk, ByteArray.extract_append_extract]
        congr 1 <;> omega
      refine ⟨?_, ?_, by omega, by omega⟩
      · rw [hput, ByteArray.extract_append_extract]
        rw [Nat.min_eq_left (by omega), Nat.max_eq_right (by omega), extract_all]
      · rw [hput, ByteArray.size_extract]
        omega


/-! ### At a place of some bytes -/
theorem extract_end (b : ByteArray) : b.extract b.size b.size = txt [] := by
  apply ByteArray.ext
  apply Array.ext'
  simp [txt]
theorem append_nil_txt (a : ByteArray) : a ++ txt [] = a := by
  apply ByteArray.ext
  apply Array.ext'
  simp [txt]
theorem vtake_at {b : ByteArray} {p n k : Nat} (hp : p ≤ b.size) (h : vtake (b.extract p b.size) = (n, k, 0)) :
    b.extract p b.size = txt (vput n) ++ b.extract (p + k) b.size ∧ p + k ≤ b.size ∧ k = (vput n).length := by
  obtain ⟨h1, h2, h3⟩ := vtake_back h
  have hs : (b.extract p b.size).size = b.size - p := by rw [ByteArray.size_extract]; omega
  refine ⟨?_, by omega, h2⟩
  refine h1.trans ?_
  rw [hs, ByteArray.extract_extract]
  congr 2
  omega
theorem spanT_at {b a : ByteArray} {most : Int} {p k : Nat} (hp : p ≤ b.size) (h : spanT (b.extract p b.size) most = (a, k, 0)) :
    b.extract p b.size = spanText a ++ b.extract (p + k) b.size ∧ p + k ≤ b.size ∧ k = (spanText a).size ∧ a.size ≤ most.toNat := by
  obtain ⟨h1, h2, h3, h4⟩ := spanT_back h
  have hs : (b.extract p b.size).size = b.size - p := by rw [ByteArray.size_extract]; omega
  refine ⟨?_, by omega, h2, h4⟩
  refine h1.trans ?_
  rw [hs, ByteArray.extract_extract]
  congr 2
  omega
theorem intT_back {s : ByteArray} {most : Int} {n k : Nat} (h : intT s most = (n, k, 0)) : vtake s = (n, k, 0) ∧ n ≤ most.toNat := by
  have hv := intT_val s most (by rw [h])
  have ok := (intT_ok s most).n
  rw [h] at hv ok
  obtain ⟨n', j, e, hq⟩ := trip_ex (vtake s)
  have he : e = 0 := by
    unfold intT at h
    rw [hq] at h
    by_cases hz : e = 0
    · exact hz
    · rw [if_pos hz] at h
      simp only [Prod.mk.injEq] at h
      exact absurd h.2.2 hz
  rw [hq] at hv ⊢
  dsimp only at hv
  rw [he, hv.1, hv.2]
  exact ⟨rfl, ok⟩
theorem intT_put {n : Nat} {most : Int} (hn : n < 18446744073709551616) (hm : n ≤ most.toNat) (s : ByteArray) : intT (txt (vput n) ++ s) most = (n, (vput n).length, 0) := by
  unfold intT
  rw [vtake_put hn]
  simp
  omega
theorem intT_big {n : Nat} {most : Int} (hn : n < 18446744073709551616) (hm : most.toNat < n) (s : ByteArray) : intT (txt (vput n) ++ s) most = (0, 0, 3) := by
  unfold intT
  rw [vtake_put hn]
  simp [hm]

/-- Behind a number that was put at place p stands the rest. -/
theorem rest_at_put {b s : ByteArray} {p n : Nat} (hp : p ≤ b.size) (h : b.extract p b.size = txt (vput n) ++ s) : b.extract (p + (vput n).length) b.size = s ∧ p + (vput n).length ≤ b.size := by
  have hs : (b.extract p b.size).size = b.size - p := by rw [ByteArray.size_extract]; omega
  refine ⟨extract_at h hp (by rw [txt_size]), ?_⟩
  rw [h, ByteArray.size_append, txt_size] at hs
  omega
theorem rest_at_span {b s a : ByteArray} {p : Nat} (hp : p ≤ b.size) (h : b.extract p b.size = spanText a ++ s) : b.extract (p + (spanText a).size) b.size = s ∧ p + (spanText a).size ≤ b.size := by
  have hs : (b.extract p b.size).size = b.size - p := by rw [ByteArray.size_extract]; omega
  refine ⟨extract_at h hp rfl, ?_⟩
  rw [h, ByteArray.size_append] at hs
  omega

end Go.Proofs.Ythcjcgagbpfkpaa

/- Spans: span.Take and the document's Int and Take, by what varint's Take gives. -/
import Derived.Test.YthcjcgagbpfkpaaVtake
import Derived.Test.YthcjcgagbpfkpaaRput
import Derived.Test.YthcjcgagbpfkpaaCallPut
namespace Go.Proofs.Ythcjcgagbpfkpaa
set_option linter.unusedSimpArgs false
set_option linter.unusedVariables false
open Go.RowKit

/-- What holds of each answer of Take. -/
structure TakeOk (size : Nat) (r : Nat × Nat × Nat) : Prop where
  n : r.1 < 18446744073709551616
  k : r.2.1 ≤ size
  k10 : r.2.1 ≤ 10
  e : r.2.2 ≤ 2
  z : r.2.2 ≠ 0 → r.1 = 0 ∧ r.2.1 = 0

theorem tk_ok (d : Nat) : ∀ (l : List UInt8) (i n size : Nat), l.length = d → i + d = size → n < 128 ^ i → (i = 9 → True) → TakeOk size (tk l i n) := by
  induction d with
  | zero =>
    intro l i n size hl hi hn _
    obtain rfl : l = [] := List.eq_nil_of_length_eq_zero hl
    exact ⟨by simp [tk], by simp [tk], by simp [tk], by simp [tk], by simp [tk]⟩
  | succ d ih =>
    intro l i n size hl hi hn _
    match l, hl with
    | c :: l, hl =>
      simp at hl
      unfold tk
      by_cases h1 : 10 ≤ i
      · rw [if_pos h1]; exact ⟨by simp, by simp, by simp, by simp, by simp⟩
      · rw [if_neg h1]
        by_cases h2 : (0 < i ∧ c.toNat = 0) ∨ (i = 9 ∧ 1 < c.toNat)
        · rw [if_pos h2]; exact ⟨by simp, by simp, by simp, by simp, by simp⟩
        · rw [if_neg h2]
          obtain ⟨_, h3, h4⟩ := or_step (c := c.toNat) hn (by omega) c.toNat_lt (fun h9 => by omega)
          by_cases h5 : c.toNat < 128
          · rw [if_pos h5]; exact ⟨h4, by simp; omega, by simp; omega, by simp, by simp⟩
          · rw [if_neg h5]; exact ih l (i + 1) _ size hl (by omega) h3 (fun _ => trivial)

theorem vtake_ok (s : ByteArray) : TakeOk s.size (vtake s) := tk_ok s.size _ 0 0 s.size (by simp) (by omega) (by decide) (fun _ => trivial)

/-- A number that is not too great. -/
def intT (s : ByteArray) (most : Int) : Nat × Nat × Nat :=
  if (vtake s).2.2 ≠ 0 then (0, 0, (vtake s).2.2) else if most.toNat < (vtake s).1 then (0, 0, 3) else ((vtake s).1, (vtake s).2.1, 0)

theorem ret3i {a b c a' b' c' : Nat} (h : (a, b, c) = (a', b', c')) :
    Ending.returned (.tuple #[.int .i64 (a : Int), .int .i64 (b : Int), .int .i64 (c : Int)]) = .returned (.tuple #[.int .i64 (a' : Int), .int .i64 (b' : Int), .int .i64 (c' : Int)]) := by
  simp only [Prod.mk.injEq] at h
  obtain ⟨rfl, rfl, rfl⟩ := h
  rfl

set_option maxRecDepth 4000 in
set_option maxHeartbeats 1000000 in
theorem rInt_calls (s : ByteArray) (most : Int) (hs : s.size ≤ 1152921504606846976) (h1 : most ≤ 9223372036854775807) (w : World) :
    Calls Try.prog 96 #[.string s, .int .i64 most] w fun e w' => e = .returned (.tuple #[.int .i64 ((intT s most).1 : Nat), .int .i64 ((intT s most).2.1 : Nat), .int .i64 ((intT s most).2.2 : Nat)]) ∧ w = w' := by
  have ok := vtake_ok s
  have C := Aside.mk (fun w => rTake_calls s hs w)
  have HI : Aside (intT s most = if (vtake s).2.2 ≠ 0 then (0, 0, (vtake s).2.2) else if most.toNat < (vtake s).1 then (0, 0, 3) else ((vtake s).1, (vtake s).2.1, 0)) := ⟨rfl⟩
  generalize vtake s = r at ok C HI
  obtain ⟨n, k, e⟩ := r
  obtain ⟨hn, hk, hk10, he, hz⟩ := ok
  dsimp only at hn hk hk10 he hz C HI
  by_cases h0 : e = 0
  · subst h0
    obtain ⟨m, hm, hmost⟩ : ∃ m : Nat, m = most.toNat ∧ m ≤ 9223372036854775807 := ⟨_, rfl, by omega⟩
    rw [← hm] at HI
    by_cases hlt : m < n
    · have HR : Aside (intT s most = (0, 0, 3)) := ⟨by rw [HI.out, if_neg (by simp), if_pos hlt]⟩
      clear HI hz
      by_cases hneg : most < 0
      · obtain rfl : m = 0 := by omega
        clear hm
        go_enter Try.func96, Try.ntmps96
        go_wp2_with fail
        refine (C.out _).mono ?_
        rintro e w' ⟨rfl, rfl⟩
        go_wp2_with fail
        go_ret3
        exact ⟨ret3i HR.out.symm, rfl⟩
      · obtain rfl : most = m := by omega
        clear hm
        go_enter Try.func96, Try.ntmps96
        go_wp2_with fail
        refine (C.out _).mono ?_
        rintro e w' ⟨rfl, rfl⟩
        go_wp2_with fail
        go_ret3
        exact ⟨ret3i HR.out.symm, rfl⟩
    · have HR : Aside (intT s most = (n, k, 0)) := ⟨by rw [HI.out, if_neg (by simp), if_neg hlt]⟩
      clear HI hz
      have hle : n ≤ m := by omega
      by_cases hneg : most < 0
      · obtain rfl : m = 0 := by omega
        clear hm
        go_enter Try.func96, Try.ntmps96
        go_wp2_with fail
        refine (C.out _).mono ?_
        rintro e w' ⟨rfl, rfl⟩
        go_wp2_with fail
        go_ret3
        exact ⟨ret3i HR.out.symm, rfl⟩
      · obtain rfl : most = m := by omega
        clear hm
        go_enter Try.func96, Try.ntmps96
        go_wp2_with fail
        refine (C.out _).mono ?_
        rintro e w' ⟨rfl, rfl⟩
        go_wp2_with fail
        go_ret3
        exact ⟨ret3i HR.out.symm, rfl⟩
  · have HR : Aside (intT s most = (0, 0, e)) := ⟨by rw [HI.out, if_pos h0]⟩
    have b0 : ((e : Int) == 0) = false := by rw [beq_eq_false_iff_ne]; omega
    have b1 : ((e : Int) != 0) = true := by rw [bne_iff_ne]; omega
    clear HI hz
    go_enter Try.func96, Try.ntmps96
    go_wp2_with fail
    refine (C.out _).mono ?_
    rintro e w' ⟨rfl, rfl⟩
    go_wp2_with fail
    go_ret3
    exact ⟨ret3i HR.out.symm, rfl⟩


/-- 2.1: the text of the span with which bytes begin, how many bytes it has, the error. -/
def spanT (s : ByteArray) (most : Int) : ByteArray × Nat × Nat :=
  if (intT s most).2.2 ≠ 0 then (⟨#[]⟩, 0, (intT s most).2.2)
  else if s.size - (intT s most).2.1 < (intT s most).1 then (⟨#[]⟩, 0, 2)
  else (s.extract (intT s most).2.1 ((intT s most).2.1 + (intT s most).1), (intT s most).2.1 + (intT s most).1, 0)

structure IntOk (size : Nat) (most : Int) (r : Nat × Nat × Nat) : Prop where
  n : r.1 ≤ most.toNat
  k : r.2.1 ≤ size
  k10 : r.2.1 ≤ 10
  e : r.2.2 ≤ 3
  z : r.2.2 ≠ 0 → r.1 = 0 ∧ r.2.1 = 0
theorem intT_ok (s : ByteArray) (most : Int) : IntOk s.size most (intT s most) := by
  obtain ⟨hn, hk, hk10, he, hz⟩ := vtake_ok s
  unfold intT
  by_cases h0 : (vtake s).2.2 ≠ 0
  · rw [if_pos h0]; exact ⟨by simp, by simp, by simp, by simp; omega, by simp⟩
  · rw [if_neg h0]
    by_cases h1 : most.toNat < (vtake s).1
    · rw [if_pos h1]; exact ⟨by simp, by simp, by simp, by simp, by simp⟩
    · rw [if_neg h1]; exact ⟨by simp; omega, hk, hk10, by simp, by simp⟩

theorem ret3s {a a' : ByteArray} {b c b' c' : Nat} (h : (a, b, c) = (a', b', c')) :
    Ending.returned (.tuple #[.string a, .int .i64 (b : Int), .int .i64 (c : Int)]) = .returned (.tuple #[.string a', .int .i64 (b' : Int), .int .i64 (c' : Int)]) := by
  simp only [Prod.mk.injEq] at h
  obtain ⟨rfl, rfl, rfl⟩ := h
  rfl

set_option maxRecDepth 4000 in
set_option maxHeartbeats 1000000 in
theorem rSpanTake_calls (s : ByteArray) (most : Int) (hs : s.size ≤ 1152921504606846976) (h1 : most ≤ 9223372036854775807) (w : World) :
    Calls Try.prog 41 #[.string s, .int .i64 most] w fun e w' => e = .returned (.tuple #[.string (spanT s most).1, .int .i64 ((spanT s most).2.1 : Nat), .int .i64 ((spanT s most).2.2 : Nat)]) ∧ w = w' := by
  have ok := intT_ok s most
  have C := Aside.mk (fun w => rInt_calls s most hs h1 w)
  have HI : Aside (spanT s most = if (intT s most).2.2 ≠ 0 then (⟨#[]⟩, 0, (intT s most).2.2)
    else if s.size - (intT s most).2.1 < (intT s most).1 then (⟨#[]⟩, 0, 2)
    else (s.extract (intT s most).2.1 ((intT s most).2.1 + (intT s most).1), (intT s most).2.1 + (intT s most).1, 0)) := ⟨rfl⟩
  generalize intT s most = r at ok C HI
  obtain ⟨n, k, e⟩ := r
  obtain ⟨hn0, hk, hk10, he, hz⟩ := ok
  dsimp only at hn0 hk hk10 he hz C HI
  have hn : n ≤ 9223372036854775807 := by omega
  clear hn0
  by_cases h0 : e = 0
  · subst h0
    by_cases hlt : s.size - k < n
    · have HR : Aside (spanT s most = (⟨#[]⟩, 0, 2)) := ⟨by rw [HI.out, if_neg (by simp), if_pos hlt]⟩
      have hlt' : (s.size : Int) - (k : Int) < (n : Int) := by omega
      clear HI hz
      go_enter Try.func41, Try.ntmps41
      go_wp2_with fail
      refine (C.out _).mono ?_
      rintro e w' ⟨rfl, rfl⟩
      go_wp2_with fail
      go_ret3
      exact ⟨ret3s HR.out.symm, rfl⟩
    · have HR : Aside (spanT s most = (s.extract k (k + n), k + n, 0)) := ⟨by rw [HI.out, if_neg (by simp), if_neg hlt]⟩
      have hlt' : ¬ (s.size : Int) - (k : Int) < (n : Int) := by omega
      have hle : k + n ≤ s.size := by omega
      clear HI hz
      go_enter Try.func41, Try.ntmps41
      go_wp2_with fail
      refine (C.out _).mono ?_
      rintro e w' ⟨rfl, rfl⟩
      go_wp2_with fail
      go_ret3
      exact ⟨ret3s HR.out.symm, rfl⟩
  · have HR : Aside (spanT s most = (⟨#[]⟩, 0, e)) := ⟨by rw [HI.out, if_pos h0]⟩
    have b0 : ((e : Int) == 0) = false := by rw [beq_eq_false_iff_ne]; omega
    have b1 : ((e : Int) != 0) = true := by rw [bne_iff_ne]; omega
    clear HI hz
    go_enter Try.func41, Try.ntmps41
    go_wp2_with fail
    refine (C.out _).mono ?_
    rintro e w' ⟨rfl, rfl⟩
    go_wp2_with fail
    go_ret3
    exact ⟨ret3s HR.out.symm, rfl⟩

set_option maxRecDepth 4000 in
set_option maxHeartbeats 1000000 in
theorem spanTake_calls (s : ByteArray) (most : Int) (hs : s.size ≤ 1152921504606846976) (h1 : most ≤ 9223372036854775807) (w : World) :
    Calls Try.prog 40 #[.string s, .int .i64 most] w fun e w' => e = .returned (.tuple #[.string (spanT s most).1, .int .i64 ((spanT s most).2.1 : Nat), .int .i64 ((spanT s most).2.2 : Nat)]) ∧ w = w' := by
  have ok := vtake_ok s
  have C := Aside.mk (fun w => vTake_calls s hs w)
  obtain ⟨m, hm, hmost⟩ : ∃ m : Nat, m = most.toNat ∧ m ≤ 9223372036854775807 := ⟨_, rfl, by omega⟩
  have hsplit : (most < 0 ∧ m = 0) ∨ most = (m : Int) := by omega
  have HI : Aside (spanT s most = if (vtake s).2.2 ≠ 0 then (⟨#[]⟩, 0, (vtake s).2.2) else if m < (vtake s).1 then (⟨#[]⟩, 0, 3)
    else if s.size - (vtake s).2.1 < (vtake s).1 then (⟨#[]⟩, 0, 2)
    else (s.extract (vtake s).2.1 ((vtake s).2.1 + (vtake s).1), (vtake s).2.1 + (vtake s).1, 0)) := ⟨by
      unfold spanT intT
      rw [← hm]
      by_cases h0 : (vtake s).2.2 ≠ 0
      · rw [if_pos h0, if_pos h0, if_pos h0]
      · rw [if_neg h0, if_neg h0]
        by_cases h1 : m < (vtake s).1
        · rw [if_pos h1, if_pos h1, if_pos (by simp)]
        · rw [if_neg h1, if_neg h1, if_neg (by simp)]⟩
  generalize vtake s = r at ok C HI
  obtain ⟨n, k, e⟩ := r
  obtain ⟨hn, hk, hk10, he, hz⟩ := ok
  dsimp only at hn hk hk10 he hz C HI
  by_cases h0 : e = 0
  · subst h0
    by_cases hm1 : m < n
    · have HR : Aside (spanT s most = (⟨#[]⟩, 0, 3)) := ⟨by rw [HI.out, if_neg (by simp), if_pos hm1]⟩
      clear HI hz
      clear hm
      rcases hsplit with ⟨hneg, rfl⟩ | rfl
      all_goals
        go_enter Try.func40, Try.ntmps40
        go_wp2_with fail
        refine (C.out _).mono ?_
        rintro e w' ⟨rfl, rfl⟩
        go_wp2_with fail
        go_ret3
        exact ⟨ret3s HR.out.symm, rfl⟩
    · have hm2 : n ≤ m := by omega
      by_cases hlt : s.size - k < n
      · have HR : Aside (spanT s most = (⟨#[]⟩, 0, 2)) := ⟨by rw [HI.out, if_neg (by simp), if_neg hm1, if_pos hlt]⟩
        have hlt' : (s.size : Int) - (k : Int) < (n : Int) := by omega
        clear HI hz
        clear hm
        rcases hsplit with ⟨hneg, rfl⟩ | rfl
        all_goals
          go_enter Try.func40, Try.ntmps40
          go_wp2_with fail
          refine (C.out _).mono ?_
          rintro e w' ⟨rfl, rfl⟩
          go_wp2_with fail
          go_ret3
          exact ⟨ret3s HR.out.symm, rfl⟩
      · have HR : Aside (spanT s most = (s.extract k (k + n), k + n, 0)) := ⟨by rw [HI.out, if_neg (by simp), if_neg hm1, if_neg hlt]⟩
        have hlt' : ¬ (s.size : Int) - (k : Int) < (n : Int) := by omega
        have hle : k + n ≤ s.size := by omega
        clear HI hz
        clear hm
        rcases hsplit with ⟨hneg, rfl⟩ | rfl
        all_goals
          go_enter Try.func40, Try.ntmps40
          go_wp2_with fail
          refine (C.out _).mono ?_
          rintro e w' ⟨rfl, rfl⟩
          go_wp2_with fail
          go_ret3
          exact ⟨ret3s HR.out.symm, rfl⟩
  · have HR : Aside (spanT s most = (⟨#[]⟩, 0, e)) := ⟨by rw [HI.out, if_pos h0]⟩
    have b0 : ((e : Int) == 0) = false := by rw [beq_eq_false_iff_ne]; omega
    have b1 : ((e : Int) != 0) = true := by rw [bne_iff_ne]; omega
    clear HI hz
    go_enter Try.func40, Try.ntmps40
    go_wp2_with fail
    refine (C.out _).mono ?_
    rintro e w' ⟨rfl, rfl⟩
    go_wp2_with fail
    go_ret3
    exact ⟨ret3s HR.out.symm, rfl⟩


set_option maxRecDepth 4000 in
/-- The closure in Reader.Int: a number that is not too great. (With an error the other results are not looked at.) -/
theorem intFn_calls (s : ByteArray) (most : Int) (hs : s.size ≤ 1152921504606846976) (h1 : most ≤ 9223372036854775807) (a : Addr) (w : World) (ha : w.cell? a = some (.int .i64 most)) :
    Calls Try.prog 109 #[.string s, .pointer (some a)] w fun e w' => e = .returned (.tuple #[.int .i64 (wrap64 ((vtake s).1 : Nat)), .int .i64 ((vtake s).2.1 : Nat), .int .i64 ((intT s most).2.2 : Nat)]) ∧ w = w' := by
  have ok := vtake_ok s
  have C := Aside.mk (fun w => vTake_calls s hs w)
  obtain ⟨m, hm, hmost⟩ : ∃ m : Nat, m = most.toNat ∧ m ≤ 9223372036854775807 := ⟨_, rfl, by omega⟩
  have hsplit : (most < 0 ∧ m = 0) ∨ most = (m : Int) := by omega
  have HI : Aside (intT s most = if (vtake s).2.2 ≠ 0 then (0, 0, (vtake s).2.2) else if m < (vtake s).1 then (0, 0, 3) else ((vtake s).1, (vtake s).2.1, 0)) := ⟨by rw [hm]; rfl⟩
  generalize vtake s = r at ok C HI
  obtain ⟨n, k, e⟩ := r
  obtain ⟨hn, hk, hk10, he, hz⟩ := ok
  dsimp only at hn hk hk10 he hz C HI
  by_cases h0 : e = 0
  · subst h0
    by_cases hm1 : m < n
    · have HR : Aside (intT s most = (0, 0, 3)) := ⟨by rw [HI.out, if_neg (by simp), if_pos hm1]⟩
      clear HI hz hm
      rcases hsplit with ⟨hneg, rfl⟩ | rfl
      all_goals
        go_enter Try.func109, Try.ntmps109
        go_wp2_with fail
        refine (C.out _).mono ?_
        rintro e w' ⟨rfl, rfl⟩
        go_wp2_with fail
        go_ret3
        exact ⟨by rw [HR.out]; rfl, rfl⟩
    · have HR : Aside (intT s most = (n, k, 0)) := ⟨by rw [HI.out, if_neg (by simp), if_neg hm1]⟩
      have hm2 : n ≤ m := by omega
      clear HI hz hm
      rcases hsplit with ⟨hneg, rfl⟩ | rfl
      all_goals
        go_enter Try.func109, Try.ntmps109
        go_wp2_with fail
        refine (C.out _).mono ?_
        rintro e w' ⟨rfl, rfl⟩
        go_wp2_with fail
        go_ret3
        exact ⟨by rw [HR.out, IntWalk.wrap64_in (n : Int) (by omega)]; rfl, rfl⟩
  · have HR : Aside (intT s most = (0, 0, e)) := ⟨by rw [HI.out, if_pos h0]⟩
    have b0 : ((e : Int) == 0) = false := by rw [beq_eq_false_iff_ne]; omega
    have b1 : ((e : Int) != 0) = true := by rw [bne_iff_ne]; omega
    clear HI hz
    go_enter Try.func109, Try.ntmps109
    go_wp2_with fail
    refine (C.out _).mono ?_
    rintro e w' ⟨rfl, rfl⟩
    go_wp2_with fail
    go_ret3
    exact ⟨by rw [HR.out]; rfl, rfl⟩

set_option maxRecDepth 4000 in
theorem restFn_calls (s : ByteArray) (w : World) :
    Calls Try.prog 106 #[.string s] w fun e w' => e = .returned (.tuple #[.string s, .int .i64 (s.size : Nat), .int .i64 0]) ∧ w = w' := by
  go_enter Try.func106, Try.ntmps106
  go_wp2
  go_ret3
  exact ⟨rfl, rfl⟩

set_option maxRecDepth 4000 in
theorem textFn_calls (s : ByteArray) (most : Int) (hs : s.size ≤ 1152921504606846976) (h1 : most ≤ 9223372036854775807) (a : Addr) (w : World) (ha : w.cell? a = some (.int .i64 most)) :
    Calls Try.prog 105 #[.string s, .pointer (some a)] w fun e w' => e = .returned (.tuple #[.string (spanT s most).1, .int .i64 ((spanT s most).2.1 : Nat), .int .i64 ((spanT s most).2.2 : Nat)]) ∧ w = w' := by
  go_enter Try.func105, Try.ntmps105
  go_wp2_with fail
  refine (spanTake_calls s most hs h1 _).mono ?_
  rintro e w' ⟨rfl, rfl⟩
  go_wp2_with fail
  go_ret3
  exact ⟨rfl, rfl⟩

end Go.Proofs.Ythcjcgagbpfkpaa

/- ref02.Next: a step behind what is so far: what the reader does. -/
import Derived.Test.YthcjcgagbpfkpaaReadAt
import Derived.Test.YthcjcgagbpfkpaaSpanTakes
namespace Go.Proofs.Ythcjcgagbpfkpaa
set_option linter.unusedVariables false
set_option linter.unusedSimpArgs false
open Go.RowKit

/-- A got, as a value. -/
def got (n : Nat) (t : ByteArray) (st : Nat × Nat) : Value := .agg #[.int .u64 n, .string t, .int .i64 st.1, .int .i64 st.2]

set_option maxRecDepth 4000 in
set_option maxHeartbeats 2000000 in
theorem next_err (b : ByteArray) (n0 : Nat) (t0 : ByteArray) (p e : Nat) (he : e ≠ 0) (kind most : Int) (w : World) :
    Calls Try.prog 79 #[.string b, .agg #[.int .u64 n0, .string t0, .int .i64 p, .int .i64 e], .agg #[.int .i64 kind, .int .i64 most]] w fun e' w' => e' = .returned (.agg #[.int .u64 0, .string ⟨#[]⟩, .int .i64 p, .int .i64 e]) ∧ Keeps [] w w' := by
  have h0 : ((e : Int) != 0) = true := by rw [bne_iff_ne]; omega
  clear he
  go_enter Try.func79, Try.ntmps79
  go_wp2_with fail
  refine bodyPost_ret (v := .agg #[.int .u64 0, .string ⟨#[]⟩, .int .i64 p, .int .i64 e]) (by simp [results, Try.results79, go_sem]) rfl ⟨rfl, (((Keeps.refl _ _).alloc _).alloc _).alloc _⟩

set_option maxRecDepth 4000 in
set_option maxHeartbeats 2000000 in
theorem next_num (b : ByteArray) (hb : b.size ≤ 1152921504606846976) (n0 : Nat) (t0 : ByteArray) (p : Nat) (hp : p ≤ b.size) (most : Int) {v k e : Nat} (h : vtake (b.extract p b.size) = (v, k, e)) (w : World) :
    Calls Try.prog 79 #[.string b, .agg #[.int .u64 n0, .string t0, .int .i64 p, .int .i64 0], .agg #[.int .i64 1, .int .i64 most]] w fun e' w' => e' = .returned (.agg #[.int .u64 v, .string ⟨#[]⟩, .int .i64 ((p + k : Nat) : Int), .int .i64 e]) ∧ Keeps [] w w' := by
  obtain ⟨R, hR⟩ : ∃ R, R = b.extract p b.size := ⟨_, rfl⟩
  rw [← hR] at h
  have hRs : R.size ≤ 1152921504606846976 := by rw [hR, ByteArray.size_extract]; omega
  have C := Aside.mk (fun w => rTake_calls R hRs w)
  rw [h] at C
  have hk := (vtake_ok R).k
  rw [h] at hk
  dsimp only at C hk
  have hRz : R.size = b.size - p := by rw [hR, ByteArray.size_extract]; omega
  have hpk : p + k ≤ 1152921504606846976 := by omega
  rw [hR] at C
  clear h hk hRz hRs hR
  go_enter Try.func79, Try.ntmps79
  go_wp2_with fail
  refine (C.out _).mono ?_
  rintro e' w1 ⟨rfl, rfl⟩
  go_wp2_with fail
  refine bodyPost_ret (v := .agg #[.int .u64 v, .string ⟨#[]⟩, .int .i64 ((p : Int) + k), .int .i64 e]) (by simp [results, Try.results79, go_sem]) rfl ⟨by simp, (((Keeps.refl _ _).alloc _).alloc _).alloc _⟩

set_option maxRecDepth 4000 in
set_option maxHeartbeats 2000000 in
theorem next_int (b : ByteArray) (hb : b.size ≤ 1152921504606846976) (n0 : Nat) (t0 : ByteArray) (p : Nat) (hp : p ≤ b.size) (most : Int) (hm : most ≤ 9223372036854775807) {v k e : Nat} (h : intT (b.extract p b.size) most = (v, k, e)) (w : World) :
    Calls Try.prog 79 #[.string b, .agg #[.int .u64 n0, .string t0, .int .i64 p, .int .i64 0], .agg #[.int .i64 2, .int .i64 most]] w fun e' w' => e' = .returned (.agg #[.int .u64 v, .string ⟨#[]⟩, .int .i64 ((p + k : Nat) : Int), .int .i64 e]) ∧ Keeps [] w w' := by
  obtain ⟨R, hR⟩ : ∃ R, R = b.extract p b.size := ⟨_, rfl⟩
  rw [← hR] at h
  have hRs : R.size ≤ 1152921504606846976 := by rw [hR, ByteArray.size_extract]; omega
  have C := Aside.mk (fun w => rInt_calls R most hRs hm w)
  rw [h] at C
  have hk := (intT_ok R most).k
  rw [h] at hk
  dsimp only at C hk
  have hv := (intT_ok R most).n
  rw [h] at hv
  dsimp only at hv
  have hw : IntKind.u64.wrap (v : Int) = v := by rw [u64_wrap_nat]; omega
  clear hv
  have hRz : R.size = b.size - p := by rw [hR, ByteArray.size_extract]; omega
  have hpk : p + k ≤ 1152921504606846976 := by omega
  rw [hR] at C
  clear h hk hRz hRs hR
  go_enter Try.func79, Try.ntmps79
  go_wp2_with fail
  refine (C.out _).mono ?_
  rintro e' w1 ⟨rfl, rfl⟩
  go_wp2_with fail
  refine bodyPost_ret (v := .agg #[.int .u64 v, .string ⟨#[]⟩, .int .i64 ((p : Int) + k), .int .i64 e]) (by simp [results, Try.results79, go_sem]) rfl ⟨by simp, (((Keeps.refl _ _).alloc _).alloc _).alloc _⟩

set_option maxRecDepth 4000 in
set_option maxHeartbeats 2000000 in
theorem next_text (b : ByteArray) (hb : b.size ≤ 1152921504606846976) (n0 : Nat) (t0 : ByteArray) (p : Nat) (hp : p ≤ b.size) (most : Int) (hm : most ≤ 9223372036854775807) {v : ByteArray} {k e : Nat} (h : spanT (b.extract p b.size) most = (v, k, e)) (w : World) :
    Calls Try.prog 79 #[.string b, .agg #[.int .u64 n0, .string t0, .int .i64 p, .int .i64 0], .agg #[.int .i64 3, .int .i64 most]] w fun e' w' => e' = .returned (.agg #[.int .u64 0, .string v, .int .i64 ((p + k : Nat) : Int), .int .i64 e]) ∧ Keeps [] w w' := by
  obtain ⟨R, hR⟩ : ∃ R, R = b.extract p b.size := ⟨_, rfl⟩
  rw [← hR] at h
  have hRs : R.size ≤ 1152921504606846976 := by rw [hR, ByteArray.size_extract]; omega
  have C := Aside.mk (fun w => rSpanTake_calls R most hRs hm w)
  rw [h] at C
  have hk := (spanT_ok R most).k
  rw [h] at hk
  dsimp only at C hk
  have hRz : R.size = b.size - p := by rw [hR, ByteArray.size_extract]; omega
  have hpk : p + k ≤ 1152921504606846976 := by omega
  rw [hR] at C
  clear h hk hRz hRs hR
  go_enter Try.func79, Try.ntmps79
  go_wp2_with fail
  refine (C.out _).mono ?_
  rintro e' w1 ⟨rfl, rfl⟩
  go_wp2_with fail
  refine bodyPost_ret (v := .agg #[.int .u64 0, .string v, .int .i64 ((p : Int) + k), .int .i64 e]) (by simp [results, Try.results79, go_sem]) rfl ⟨by simp, (((Keeps.refl _ _).alloc _).alloc _).alloc _⟩

set_option maxRecDepth 4000 in
set_option maxHeartbeats 2000000 in
theorem next_rest (b : ByteArray) (hb : b.size ≤ 1152921504606846976) (n0 : Nat) (t0 : ByteArray) (p : Nat) (hp : p ≤ b.size) (kind most : Int) (h1 : kind ≠ 1) (h2 : kind ≠ 2) (h3 : kind ≠ 3) (w : World) :
    Calls Try.prog 79 #[.string b, .agg #[.int .u64 n0, .string t0, .int .i64 p, .int .i64 0], .agg #[.int .i64 kind, .int .i64 most]] w fun e' w' => e' = .returned (.agg #[.int .u64 0, .string (b.extract p b.size), .int .i64 ((p + (b.extract p b.size).size : Nat) : Int), .int .i64 0]) ∧ Keeps [] w w' := by
  have b1 : (kind == 1) = false := by rw [beq_eq_false_iff_ne]; exact h1
  have b2 : (kind == 2) = false := by rw [beq_eq_false_iff_ne]; exact h2
  have b3 : (kind == 3) = false := by rw [beq_eq_false_iff_ne]; exact h3
  have hRz : (b.extract p b.size).size = b.size - p := by rw [ByteArray.size_extract]; omega
  obtain ⟨k, hk⟩ : ∃ k, k = (b.extract p b.size).size := ⟨_, rfl⟩
  have hpk : p + k ≤ 1152921504606846976 := by omega
  have HK := Aside.mk hk
  have hkk : (b.extract p b.size).size = k := hk.symm
  clear h1 h2 h3 hRz hk
  go_enter Try.func79, Try.ntmps79
  go_wp2_with fail
  rw [hkk]
  refine bodyPost_ret (v := .agg #[.int .u64 0, .string (b.extract p b.size), .int .i64 ((p : Int) + k), .int .i64 0]) (by simp [results, Try.results79, go_sem]) rfl ⟨by simp, (((Keeps.refl _ _).alloc _).alloc _).alloc _⟩

section
variable {b : ByteArray} {n0 : Nat} {t0 : ByteArray} {p e p' e' : Nat} {most : Int} {w : World}
theorem next_num_at (hb : b.size ≤ 1152921504606846976) (hp : RdIn b (p, e)) {v : Nat} (h : rdNum b (p, e) = (v, (p', e'))) :
    Calls Try.prog 79 #[.string b, .agg #[.int .u64 n0, .string t0, .int .i64 p, .int .i64 e], .agg #[.int .i64 1, .int .i64 most]] w fun r w' => r = .returned (.agg #[.int .u64 v, .string ⟨#[]⟩, .int .i64 p', .int .i64 e']) ∧ Keeps [] w w' := by
  by_cases he : e = 0
  · subst he
    obtain ⟨x, k, f, hx⟩ := trip_ex (vtake (b.extract p b.size))
    have hz := (vtake_ok (b.extract p b.size)).z
    rw [hx] at hz
    have c := next_num b hb n0 t0 p hp.1 most hx w
    by_cases hf : f = 0
    · subst hf
      rw [rdNum_good hx] at h
      simp only [Prod.mk.injEq] at h
      obtain ⟨rfl, rfl, rfl⟩ := h
      exact c
    · rw [rdNum_bad hx hf] at h
      simp only [Prod.mk.injEq] at h
      obtain ⟨rfl, rfl, rfl⟩ := h
      obtain ⟨h1, h2⟩ := hz hf
      dsimp only at h1 h2
      rw [h1, h2] at c
      exact c
  · rw [rdNum_err he] at h
    simp only [Prod.mk.injEq] at h
    obtain ⟨rfl, rfl, rfl⟩ := h
    exact next_err b n0 t0 p e he 1 most w
theorem next_int_at (hb : b.size ≤ 1152921504606846976) (hp : RdIn b (p, e)) (hm : most ≤ 9223372036854775807) {v : Nat} (h : rdInt most b (p, e) = (v, (p', e'))) :
    Calls Try.prog 79 #[.string b, .agg #[.int .u64 n0, .string t0, .int .i64 p, .int .i64 e], .agg #[.int .i64 2, .int .i64 most]] w fun r w' => r = .returned (.agg #[.int .u64 v, .string ⟨#[]⟩, .int .i64 p', .int .i64 e']) ∧ Keeps [] w w' := by
  by_cases he : e = 0
  · subst he
    obtain ⟨x, k, f, hx⟩ := trip_ex (intT (b.extract p b.size) most)
    have hz := (intT_ok (b.extract p b.size) most).z
    rw [hx] at hz
    have c := next_int b hb n0 t0 p hp.1 most hm hx w
    by_cases hf : f = 0
    · subst hf
      rw [rdInt_good hx] at h
      simp only [Prod.mk.injEq] at h
      obtain ⟨rfl, rfl, rfl⟩ := h
      exact c
    · rw [rdInt_bad hx hf] at h
      simp only [Prod.mk.injEq] at h
      obtain ⟨rfl, rfl, rfl⟩ := h
      obtain ⟨h1, h2⟩ := hz hf
      dsimp only at h1 h2
      rw [h1, h2] at c
      exact c
  · rw [rdInt_err he] at h
    simp only [Prod.mk.injEq] at h
    obtain ⟨rfl, rfl, rfl⟩ := h
    exact next_err b n0 t0 p e he 2 most w
theorem spanT_bad {s : ByteArray} {M : Int} (h : (spanT s M).2.2 ≠ 0) : (spanT s M).1 = ⟨#[]⟩ := by
  unfold spanT at h ⊢
  by_cases h0 : (intT s M).2.2 ≠ 0
  · rw [if_pos h0]
  · rw [if_neg h0] at h ⊢
    by_cases h1 : s.size - (intT s M).2.1 < (intT s M).1
    · rw [if_pos h1]
    · rw [if_neg h1] at h
      exact absurd rfl h
theorem next_text_at (hb : b.size ≤ 1152921504606846976) (hp : RdIn b (p, e)) (hm : most ≤ 9223372036854775807) {v : ByteArray} (h : rdText most b (p, e) = (v, (p', e'))) :
    Calls Try.prog 79 #[.string b, .agg #[.int .u64 n0, .string t0, .int .i64 p, .int .i64 e], .agg #[.int .i64 3, .int .i64 most]] w fun r w' => r = .returned (.agg #[.int .u64 0, .string v, .int .i64 p', .int .i64 e']) ∧ Keeps [] w w' := by
  by_cases he : e = 0
  · subst he
    obtain ⟨x, k, f, hx⟩ := trip_ex (spanT (b.extract p b.size) most)
    have hz := (spanT_ok (b.extract p b.size) most).z
    have hy := spanT_bad (s := b.extract p b.size) (M := most)
    rw [hx] at hz hy
    have c := next_text b hb n0 t0 p hp.1 most hm hx w
    by_cases hf : f = 0
    · subst hf
      rw [rdText_good hx] at h
      simp only [Prod.mk.injEq] at h
      obtain ⟨rfl, rfl, rfl⟩ := h
      exact c
    · rw [rdText_bad hx hf] at h
      simp only [Prod.mk.injEq] at h
      obtain ⟨rfl, rfl, rfl⟩ := h
      have h1 := hy hf
      have h2 := hz hf
      dsimp only at h1 h2
      rw [h1, h2] at c
      exact c
  · rw [rdText_err he] at h
    simp only [Prod.mk.injEq] at h
    obtain ⟨rfl, rfl, rfl⟩ := h
    exact next_err b n0 t0 p e he 3 most w
theorem next_rest_at (hb : b.size ≤ 1152921504606846976) (hp : RdIn b (p, e)) {kind : Int} (k1 : kind ≠ 1) (k2 : kind ≠ 2) (k3 : kind ≠ 3) {v : ByteArray} (h : rdRest b (p, e) = (v, (p', e'))) :
    Calls Try.prog 79 #[.string b, .agg #[.int .u64 n0, .string t0, .int .i64 p, .int .i64 e], .agg #[.int .i64 kind, .int .i64 most]] w fun r w' => r = .returned (.agg #[.int .u64 0, .string v, .int .i64 p', .int .i64 e']) ∧ Keeps [] w w' := by
  by_cases he : e = 0
  · subst he
    rw [rdRest_good] at h
    simp only [Prod.mk.injEq] at h
    obtain ⟨rfl, rfl, rfl⟩ := h
    exact next_rest b hb n0 t0 p hp.1 kind most k1 k2 k3 w
  · rw [rdRest_err he] at h
    simp only [Prod.mk.injEq] at h
    obtain ⟨rfl, rfl, rfl⟩ := h
    exact next_err b n0 t0 p e he kind most w
end
end Go.Proofs.Ythcjcgagbpfkpaa

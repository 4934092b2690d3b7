/- The reader's contracts with what they give under names; and that its place stays within the bytes. -/
import Derived.Test.YthcjcgagbpfkpaaReader
namespace Go.Proofs.Ythcjcgagbpfkpaa
set_option linter.unusedSimpArgs false
set_option linter.unusedVariables false
open Go.RowKit

theorem rd_in {α : Type} {zero : α} {f : ByteArray → α × Nat × Nat} (hf : ∀ s, (f s).2.1 ≤ s.size ∧ (f s).2.2 ≤ 3) {b : ByteArray} {st : Nat × Nat} (h : RdIn b st) : RdIn b (rd zero f b st).2 := by
  obtain ⟨h1, h2⟩ := h
  have hx := hf (b.extract st.1 b.size)
  have hs : (b.extract st.1 b.size).size = b.size - st.1 := by rw [ByteArray.size_extract]; omega
  unfold rd
  by_cases h0 : st.2 ≠ 0
  · rw [if_pos h0]; exact ⟨h1, h2⟩
  · rw [if_neg h0]
    by_cases h3 : (f (b.extract st.1 b.size)).2.2 ≠ 0
    · rw [if_pos h3]; exact ⟨h1, hx.2⟩
    · rw [if_neg h3]; exact ⟨by dsimp only; omega, by simp⟩
theorem rdNum_in {b : ByteArray} {st : Nat × Nat} (h : RdIn b st) : RdIn b (rdNum b st).2 := rd_in (fun s => ⟨(vtake_ok s).k, by have := (vtake_ok s).e; omega⟩) h
theorem rdInt_in {b : ByteArray} {st : Nat × Nat} (most : Int) (h : RdIn b st) : RdIn b (rdInt most b st).2 := rd_in (fun s => ⟨(intT_ok s most).k, (intT_ok s most).e⟩) h
theorem rdText_in {b : ByteArray} {st : Nat × Nat} (most : Int) (h : RdIn b st) : RdIn b (rdText most b st).2 := rd_in (fun s => ⟨(spanT_ok s most).k, (spanT_ok s most).e⟩) h
theorem rdRest_in {b : ByteArray} {st : Nat × Nat} (h : RdIn b st) : RdIn b (rdRest b st).2 := rd_in (fun s => ⟨Nat.le_refl _, by simp⟩) h

theorem rdInt_le {b : ByteArray} {st : Nat × Nat} (most : Int) : (rdInt most b st).1 ≤ most.toNat := by
  have := (intT_ok (b.extract st.1 b.size) most).n
  unfold rdInt rd
  split
  · simp
  · split
    · simp
    · exact this
theorem rdNum_lt {b : ByteArray} {st : Nat × Nat} : (rdNum b st).1 < 18446744073709551616 := by
  have := (vtake_ok (b.extract st.1 b.size)).n
  unfold rdNum rd
  split
  · simp
  · split
    · simp
    · exact this

section
variable {b : ByteArray} {st s : Nat × Nat} (hb : b.size ≤ 1152921504606846976) (hp : RdIn b st) (R : Nat) (w : World) (h : Rd w R b st)
include hb hp h
theorem num_at {v : Nat} (he : rdNum b st = (v, s)) : Calls Try.prog 73 #[.pointer (some ⟨R, 0, none⟩)] w fun e' w' => e' = .returned (.int .u64 v) ∧ Rd w' R b s ∧ Keeps [R] w w' :=
  (num_calls R b st hb hp w h).mono (by rw [he]; exact fun _ _ h => ⟨h.1, h.2.1, h.2.2.1⟩)
theorem int_at {v : Nat} {most : Int} (hm : most ≤ 9223372036854775807) (he : rdInt most b st = (v, s)) : Calls Try.prog 74 #[.pointer (some ⟨R, 0, none⟩), .int .i64 most] w fun e' w' => e' = .returned (.int .i64 v) ∧ Rd w' R b s ∧ Keeps [R] w w' :=
  (int_calls R b st most hm hb hp w h).mono (by rw [he]; exact fun _ _ h => ⟨h.1, h.2.1, h.2.2.1⟩)
theorem text_at {v : ByteArray} {most : Int} (hm : most ≤ 9223372036854775807) (he : rdText most b st = (v, s)) : Calls Try.prog 69 #[.pointer (some ⟨R, 0, none⟩), .int .i64 most] w fun e' w' => e' = .returned (.string v) ∧ Rd w' R b s ∧ Keeps [R] w w' :=
  (text_calls R b st most hm hb hp w h).mono (by rw [he]; exact fun _ _ h => ⟨h.1, h.2.1, h.2.2.1⟩)
theorem rest_at {v : ByteArray} (he : rdRest b st = (v, s)) : Calls Try.prog 71 #[.pointer (some ⟨R, 0, none⟩)] w fun e' w' => e' = .returned (.string v) ∧ Rd w' R b s ∧ Keeps [R] w w' :=
  (rest_calls R b st hb hp w h).mono (by rw [he]; exact fun _ _ h => ⟨h.1, h.2.1, h.2.2.1⟩)
theorem done_at {d : Nat} (he : rdDone b st = d) : Calls Try.prog 72 #[.pointer (some ⟨R, 0, none⟩)] w fun e' w' => e' = .returned (.int .i64 d) ∧ Keeps [] w w' :=
  (done_calls R b st hb hp w h).mono (by rw [he]; exact fun _ _ h => h)
end
theorem rdNum_in' {b : ByteArray} {st s : Nat × Nat} {v : Nat} (he : rdNum b st = (v, s)) (h : RdIn b st) : RdIn b s ∧ v < 18446744073709551616 := by
  have h1 := rdNum_in h
  have h2 := rdNum_lt (b := b) (st := st)
  rw [he] at h1 h2
  exact ⟨h1, h2⟩
theorem rdInt_in' {b : ByteArray} {st s : Nat × Nat} {v : Nat} {most : Int} (he : rdInt most b st = (v, s)) (h : RdIn b st) : RdIn b s ∧ v ≤ most.toNat := by
  have h1 := rdInt_in most h
  have h2 := rdInt_le (b := b) (st := st) most
  rw [he] at h1 h2
  exact ⟨h1, h2⟩
theorem rdText_in' {b : ByteArray} {st s : Nat × Nat} {v : ByteArray} {most : Int} (he : rdText most b st = (v, s)) (h : RdIn b st) : RdIn b s := by
  have h1 := rdText_in most h
  rw [he] at h1
  exact h1
theorem rdRest_in' {b : ByteArray} {st s : Nat × Nat} {v : ByteArray} (he : rdRest b st = (v, s)) (h : RdIn b st) : RdIn b s := by
  have h1 := rdRest_in h
  rw [he] at h1
  exact h1
theorem pair_ex {α β : Type} (x : α × β) : ∃ a b, x = (a, b) := ⟨x.1, x.2, rfl⟩


/-! ### The reader's steps, by what the functions give -/
theorem extract_all (b : ByteArray) : b.extract 0 b.size = b := by
  apply ByteArray.ext
  simp
theorem trip_ex {α β γ : Type} (x : α × β × γ) : ∃ a b c, x = (a, b, c) := ⟨x.1, x.2.1, x.2.2, rfl⟩
section
variable {α : Type} {zero : α} {f : ByteArray → α × Nat × Nat} {b : ByteArray} {p k e : Nat} {a : α}
theorem rd_good (h : f (b.extract p b.size) = (a, k, 0)) : rd zero f b (p, 0) = (a, (p + k, 0)) := by simp [rd, h]
theorem rd_bad (h : f (b.extract p b.size) = (a, k, e)) (he : e ≠ 0) : rd zero f b (p, 0) = (zero, (p, e)) := by simp [rd, h, he]
end
theorem rdInt_good {M : Int} {b : ByteArray} {p k n : Nat} (h : intT (b.extract p b.size) M = (n, k, 0)) : rdInt M b (p, 0) = (n, (p + k, 0)) := rd_good h
theorem rdInt_bad {M : Int} {b : ByteArray} {p k n e : Nat} (h : intT (b.extract p b.size) M = (n, k, e)) (he : e ≠ 0) : rdInt M b (p, 0) = (0, (p, e)) := rd_bad h he
theorem rdInt_err {M : Int} {b : ByteArray} {p e : Nat} (he : e ≠ 0) : rdInt M b (p, e) = (0, (p, e)) := rd_err he
theorem rdNum_good {b : ByteArray} {p k n : Nat} (h : vtake (b.extract p b.size) = (n, k, 0)) : rdNum b (p, 0) = (n, (p + k, 0)) := rd_good h
theorem rdNum_bad {b : ByteArray} {p k n e : Nat} (h : vtake (b.extract p b.size) = (n, k, e)) (he : e ≠ 0) : rdNum b (p, 0) = (0, (p, e)) := rd_bad h he
theorem rdNum_err {b : ByteArray} {p e : Nat} (he : e ≠ 0) : rdNum b (p, e) = (0, (p, e)) := rd_err he
theorem rdText_good {M : Int} {b : ByteArray} {p k : Nat} {s : ByteArray} (h : spanT (b.extract p b.size) M = (s, k, 0)) : rdText M b (p, 0) = (s, (p + k, 0)) := rd_good h
theorem rdText_bad {M : Int} {b : ByteArray} {p k e : Nat} {s : ByteArray} (h : spanT (b.extract p b.size) M = (s, k, e)) (he : e ≠ 0) : rdText M b (p, 0) = (⟨#[]⟩, (p, e)) := rd_bad h he
theorem rdText_err {M : Int} {b : ByteArray} {p e : Nat} (he : e ≠ 0) : rdText M b (p, e) = (⟨#[]⟩, (p, e)) := rd_err he
theorem rdRest_good {b : ByteArray} {p : Nat} : rdRest b (p, 0) = (b.extract p b.size, (p + (b.extract p b.size).size, 0)) := rd_good rfl
theorem rdRest_err {b : ByteArray} {p e : Nat} (he : e ≠ 0) : rdRest b (p, e) = (⟨#[]⟩, (p, e)) := rd_err he
theorem rdDone_err {b : ByteArray} {p e : Nat} (he : e ≠ 0) : rdDone b (p, e) = e := by simp [rdDone, he]
theorem rdDone_left {b : ByteArray} {p : Nat} (h : p < b.size) : rdDone b (p, 0) = 1 := by simp [rdDone, h]
theorem rdDone_all {b : ByteArray} {p : Nat} (h : ¬ p < b.size) : rdDone b (p, 0) = 0 := by simp [rdDone, h]

end Go.Proofs.Ythcjcgagbpfkpaa

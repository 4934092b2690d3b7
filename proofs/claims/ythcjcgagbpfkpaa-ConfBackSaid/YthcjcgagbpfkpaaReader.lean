/- The reader of bytes: what Num, Int, Text, Rest, Done and At do to the reader in memory. -/
import Derived.Test.YthcjcgagbpfkpaaSpanT
import Derived.Laws.EntriesVeiled
namespace Go.Proofs.Ythcjcgagbpfkpaa
set_option linter.unusedSimpArgs false
set_option linter.unusedVariables false
open Go.RowKit

/-- Block R holds a reader of b, at this place, with this error. -/
def rdCells (b : ByteArray) (p e : Nat) : Array Value := #[.string b, .int .i64 p, .int .i64 e]
def Rd (w : World) (R : Nat) (b : ByteArray) (st : Nat × Nat) : Prop := Whole w R 116 (rdCells b st.1 st.2)

theorem Rd.keeps {w w' : World} {R : Nat} {b : ByteArray} {st : Nat × Nat} {L : List Nat} (h : Rd w R b st) (k : Keeps L w w') (hR : R ∉ L) : Rd w' R b st := k.whole h hR
theorem Rd.lt {w : World} {R : Nat} {b : ByteArray} {st : Nat × Nat} (h : Rd w R b st) : R < w.heap.size := Whole.lt h
theorem Rd.new (w : World) (b : ByteArray) : Rd (w.alloc (.cells #[.string b, .int .i64 0, .int .i64 0] 116)) w.heap.size b (0, 0) := Whole.new _ _ _

/-- 2.2: what taking by a function does. -/
def rd {α : Type} (zero : α) (f : ByteArray → α × Nat × Nat) (b : ByteArray) (st : Nat × Nat) : α × (Nat × Nat) :=
  if st.2 ≠ 0 then (zero, st)
  else if (f (b.extract st.1 b.size)).2.2 ≠ 0 then (zero, (st.1, (f (b.extract st.1 b.size)).2.2))
  else ((f (b.extract st.1 b.size)).1, (st.1 + (f (b.extract st.1 b.size)).2.1, 0))
def rdNum : ByteArray → Nat × Nat → Nat × (Nat × Nat) := rd 0 vtake
def rdInt (most : Int) : ByteArray → Nat × Nat → Nat × (Nat × Nat) := rd 0 (fun s => intT s most)
def rdText (most : Int) : ByteArray → Nat × Nat → ByteArray × (Nat × Nat) := rd ⟨#[]⟩ (fun s => spanT s most)
def rdRest : ByteArray → Nat × Nat → ByteArray × (Nat × Nat) := rd ⟨#[]⟩ (fun s => (s, s.size, 0))
theorem rd_err {α : Type} {zero : α} {f : ByteArray → α × Nat × Nat} {b : ByteArray} {p e : Nat} (h : e ≠ 0) : rd zero f b (p, e) = (zero, (p, e)) := by simp [rd, h]

/-- A reader's place: not behind the bytes; its error is one of four. -/
def RdIn (b : ByteArray) (st : Nat × Nat) : Prop := st.1 ≤ b.size ∧ st.2 ≤ 3

structure SpanOk (size : Nat) (r : ByteArray × Nat × Nat) : Prop where
  k : r.2.1 ≤ size
  e : r.2.2 ≤ 3
  z : r.2.2 ≠ 0 → r.2.1 = 0
theorem spanT_ok (s : ByteArray) (most : Int) : SpanOk s.size (spanT s most) := by
  obtain ⟨hn, hk, hk10, he, hz⟩ := intT_ok s most
  unfold spanT
  by_cases h0 : (intT s most).2.2 ≠ 0
  · rw [if_pos h0]; exact ⟨by simp, he, by simp⟩
  · rw [if_neg h0]
    by_cases h1 : s.size - (intT s most).2.1 < (intT s most).1
    · rw [if_pos h1]; exact ⟨by simp, by simp, by simp⟩
    · rw [if_neg h1]; exact ⟨by dsimp only; omega, by simp, by simp⟩
theorem intT_val (s : ByteArray) (most : Int) : (intT s most).2.2 = 0 → (vtake s).1 = (intT s most).1 ∧ (vtake s).2.1 = (intT s most).2.1 := by
  unfold intT
  by_cases h0 : (vtake s).2.2 ≠ 0
  · rw [if_pos h0]; intro h; exact absurd h h0
  · rw [if_neg h0]
    by_cases h1 : most.toNat < (vtake s).1
    · rw [if_pos h1]; intro h; cases h
    · rw [if_neg h1]; intro _; exact ⟨rfl, rfl⟩

theorem set_place {w : World} {R : Nat} {b : ByteArray} {p e : Nat} (h : Rd w R b (p, e)) (n q : Nat) (v : Int) (hv : v = q) : Rd ((w.drewN n).setCell ⟨R, 1, none⟩ (.int .i64 v)) R b (q, e) := by
  subst hv
  have h' : Whole (w.drewN n) R 116 (rdCells b p e) := h
  have := h'.set_ 1 (.int .i64 q)
  simpa [Rd, rdCells] using this
theorem set_err {w : World} {R : Nat} {b : ByteArray} {p e : Nat} (h : Rd w R b (p, e)) (n q : Nat) : Rd ((w.drewN n).setCell ⟨R, 2, none⟩ (.int .i64 q)) R b (p, q) := by
  have h' : Whole (w.drewN n) R 116 (rdCells b p e) := h
  have := h'.set_ 2 (.int .i64 q)
  simpa [Rd, rdCells] using this


set_option maxRecDepth 4000 in
set_option maxHeartbeats 1000000 in
theorem take107 (R : Nat) (b : ByteArray) (p e : Nat) (hb : b.size ≤ 1152921504606846976) (hp : RdIn b (p, e)) (w : World) (h : Rd w R b (p, e))  :
    Calls Try.prog 107 #[.pointer (some ⟨R, 0, none⟩), .func (.func 95) #[] #[]] w fun e' w' => e' = .returned (.int .u64 ((rdNum b (p, e)).1 : Nat)) ∧ Rd w' R b (rdNum b (p, e)).2 ∧ Keeps [R] w w' ∧ RdIn b (rdNum b (p, e)).2 := by
  obtain ⟨hp, he3⟩ := hp
  dsimp only at hp he3
  have h0 : w.cell? ⟨R, 0, none⟩ = some (.string b) := (h.cell 0).trans rfl
  have h1 : w.cell? ⟨R, 1, none⟩ = some (.int .i64 p) := (h.cell 1).trans rfl
  have h2 : w.cell? ⟨R, 2, none⟩ = some (.int .i64 e) := (h.cell 2).trans rfl
  have hz : ∀ j, w.frozen? ⟨R, j, none⟩ = false := h.frozen
  have HW := Aside.mk h
  clear h
  by_cases he : e = 0
  · subst he
    have hsz : (b.extract p b.size).size = b.size - p := by rw [ByteArray.size_extract]; omega
    have hsz2 : (b.extract p b.size).size ≤ 1152921504606846976 := by omega
    have c1 := Aside.mk (fun w => vTake_calls (b.extract p b.size) hsz2 w)
    have ok := vtake_ok (b.extract p b.size)
    have hr : rdNum b (p, 0) = if (vtake (b.extract p b.size)).2.2 ≠ 0 then (0, (p, (vtake (b.extract p b.size)).2.2)) else ((vtake (b.extract p b.size)).1, (p + (vtake (b.extract p b.size)).2.1, 0)) := by
      simp [rdNum, rd]
    generalize vtake (b.extract p b.size) = r at c1 ok hr
    obtain ⟨n, k, e⟩ := r
    obtain ⟨hn, hk, hk10, he, hzz⟩ := ok
    dsimp only at c1 hn hk hk10 he hzz hr
    by_cases h00 : e = 0
    · rw [if_neg (by simp [h00])] at hr
      have HR := Aside.mk hr
      clear hr
      subst h00
      have hpk : p + k ≤ b.size := by omega
      
      go_enter Try.func107, Try.ntmps107
      go_wp2_with fail
      go_quiet ((go_at_call 95; exact Calls.quiet_of_same ((c1.out _).mono (fun _ _ h => ⟨h.1, h.2.symm⟩))))
      go_wp2
      go_ret
      rw [HR.out]
      exact ⟨rfl, set_place HW.out _ _ _ (by omega), ((Keeps.refl _ _).drewN _).setCell (.inl (by simp)) _, hpk, by simp⟩
    · rw [if_pos h00] at hr
      have b0 : ((e : Int) == 0) = false := by rw [beq_eq_false_iff_ne]; omega
      have b1 : ((e : Int) != 0) = true := by rw [bne_iff_ne]; omega
      have HR := Aside.mk hr
      clear hr
      go_enter Try.func107, Try.ntmps107
      go_wp2_with fail
      go_quiet ((go_at_call 95; exact Calls.quiet_of_same ((c1.out _).mono (fun _ _ h => ⟨h.1, h.2.symm⟩))))
      go_wp2
      go_ret
      rw [HR.out]
      exact ⟨rfl, set_err HW.out _ _, ((Keeps.refl _ _).drewN _).setCell (.inl (by simp)) _, hp, by dsimp only; omega⟩
  · have b0 : ((e : Int) == 0) = false := by rw [beq_eq_false_iff_ne]; omega
    have b1 : ((e : Int) != 0) = true := by rw [bne_iff_ne]; omega
    rw [show rdNum b (p, e) = (0, (p, e)) from rd_err he]
    go_enter Try.func107, Try.ntmps107
    go_wp2_with fail
    go_ret
    exact ⟨rfl, HW.out, Keeps.refl _ _, hp, he3⟩

set_option maxRecDepth 4000 in
set_option maxHeartbeats 1000000 in
theorem takeText (R : Nat) (b : ByteArray) (p e : Nat) (hb : b.size ≤ 1152921504606846976) (hp : RdIn b (p, e)) (w : World) (h : Rd w R b (p, e)) (a : Addr) (most : Int) (h1' : most ≤ 9223372036854775807) (haR : a.block ≠ R) (ha : w.cell? a = some (.int .i64 most)) :
    Calls Try.prog 104 #[.pointer (some ⟨R, 0, none⟩), .func (.func 105) #[] #[.pointer (some a)]] w fun e' w' => e' = .returned (.string (rdText most b (p, e)).1) ∧ Rd w' R b (rdText most b (p, e)).2 ∧ Keeps [R] w w' ∧ RdIn b (rdText most b (p, e)).2 := by
  obtain ⟨hp, he3⟩ := hp
  dsimp only at hp he3
  have h0 : w.cell? ⟨R, 0, none⟩ = some (.string b) := (h.cell 0).trans rfl
  have h1 : w.cell? ⟨R, 1, none⟩ = some (.int .i64 p) := (h.cell 1).trans rfl
  have h2 : w.cell? ⟨R, 2, none⟩ = some (.int .i64 e) := (h.cell 2).trans rfl
  have hz : ∀ j, w.frozen? ⟨R, j, none⟩ = false := h.frozen
  have HW := Aside.mk h
  clear h
  by_cases he : e = 0
  · subst he
    have hsz : (b.extract p b.size).size = b.size - p := by rw [ByteArray.size_extract]; omega
    have hsz2 : (b.extract p b.size).size ≤ 1152921504606846976 := by omega
    have c1 := Aside.mk (fun w ha => textFn_calls (b.extract p b.size) most hsz2 h1' a w ha)
    have ok := spanT_ok (b.extract p b.size) most
    have hr : rdText most b (p, 0) = if (spanT (b.extract p b.size) most).2.2 ≠ 0 then (⟨#[]⟩, (p, (spanT (b.extract p b.size) most).2.2)) else ((spanT (b.extract p b.size) most).1, (p + (spanT (b.extract p b.size) most).2.1, 0)) := by
      simp [rdText, rd]
    generalize spanT (b.extract p b.size) most = r at c1 ok hr
    obtain ⟨n, k, e⟩ := r
    obtain ⟨hk, he, hzz⟩ := ok
    dsimp only at c1 hk he hzz hr
    by_cases h00 : e = 0
    · rw [if_neg (by simp [h00])] at hr
      have HR := Aside.mk hr
      clear hr
      subst h00
      have hpk : p + k ≤ b.size := by omega
      
      go_enter Try.func104, Try.ntmps104
      go_wp2_with fail
      go_quiet ((go_at_call 105; exact Calls.quiet_of_same ((c1.out _ (by simpa using ha)).mono (fun _ _ h => ⟨h.1, h.2.symm⟩))))
      go_wp2
      go_ret
      rw [HR.out]
      exact ⟨rfl, set_place HW.out _ _ _ (by omega), ((Keeps.refl _ _).drewN _).setCell (.inl (by simp)) _, hpk, by simp⟩
    · rw [if_pos h00] at hr
      have b0 : ((e : Int) == 0) = false := by rw [beq_eq_false_iff_ne]; omega
      have b1 : ((e : Int) != 0) = true := by rw [bne_iff_ne]; omega
      have HR := Aside.mk hr
      clear hr
      go_enter Try.func104, Try.ntmps104
      go_wp2_with fail
      go_quiet ((go_at_call 105; exact Calls.quiet_of_same ((c1.out _ (by simpa using ha)).mono (fun _ _ h => ⟨h.1, h.2.symm⟩))))
      go_wp2
      go_ret
      rw [HR.out]
      exact ⟨rfl, set_err HW.out _ _, ((Keeps.refl _ _).drewN _).setCell (.inl (by simp)) _, hp, by dsimp only; omega⟩
  · have b0 : ((e : Int) == 0) = false := by rw [beq_eq_false_iff_ne]; omega
    have b1 : ((e : Int) != 0) = true := by rw [bne_iff_ne]; omega
    rw [show rdText most b (p, e) = (⟨#[]⟩, (p, e)) from rd_err he]
    go_enter Try.func104, Try.ntmps104
    go_wp2_with fail
    go_ret
    exact ⟨rfl, HW.out, Keeps.refl _ _, hp, he3⟩

set_option maxRecDepth 4000 in
set_option maxHeartbeats 1000000 in
theorem takeRest (R : Nat) (b : ByteArray) (p e : Nat) (hb : b.size ≤ 1152921504606846976) (hp : RdIn b (p, e)) (w : World) (h : Rd w R b (p, e)) :
    Calls Try.prog 104 #[.pointer (some ⟨R, 0, none⟩), .func (.func 106) #[] #[]] w fun e' w' => e' = .returned (.string (rdRest b (p, e)).1) ∧ Rd w' R b (rdRest b (p, e)).2 ∧ Keeps [R] w w' ∧ RdIn b (rdRest b (p, e)).2 := by
  obtain ⟨hp, he3⟩ := hp
  dsimp only at hp he3
  have h0 : w.cell? ⟨R, 0, none⟩ = some (.string b) := (h.cell 0).trans rfl
  have h1 : w.cell? ⟨R, 1, none⟩ = some (.int .i64 p) := (h.cell 1).trans rfl
  have h2 : w.cell? ⟨R, 2, none⟩ = some (.int .i64 e) := (h.cell 2).trans rfl
  have hz : ∀ j, w.frozen? ⟨R, j, none⟩ = false := h.frozen
  have HW := Aside.mk h
  clear h
  by_cases he : e = 0
  · subst he
    have hsz : (b.extract p b.size).size = b.size - p := by rw [ByteArray.size_extract]; omega
    have c1 := Aside.mk (fun w => restFn_calls (b.extract p b.size) w)
    have hr : rdRest b (p, 0) = ((b.extract p b.size), (p + (b.extract p b.size).size, 0)) := by simp [rdRest, rd]
    obtain ⟨k, hk⟩ : ∃ k, k = (b.extract p b.size).size := ⟨_, rfl⟩
    rw [← hk] at c1 hr
    have hpk : p + k ≤ b.size := by omega
    have HR := Aside.mk hr
    clear hr hk hsz
    go_enter Try.func104, Try.ntmps104
    go_wp2_with fail
    go_quiet ((go_at_call 106; exact Calls.quiet_of_same ((c1.out _).mono (fun _ _ h => ⟨h.1, h.2.symm⟩))))
    go_wp2
    go_ret
    rw [HR.out]
    exact ⟨rfl, set_place HW.out _ _ _ (by omega), ((Keeps.refl _ _).drewN _).setCell (.inl (by simp)) _, hpk, by simp⟩
  · have b0 : ((e : Int) == 0) = false := by rw [beq_eq_false_iff_ne]; omega
    have b1 : ((e : Int) != 0) = true := by rw [bne_iff_ne]; omega
    rw [show rdRest b (p, e) = (⟨#[]⟩, (p, e)) from rd_err he]
    go_enter Try.func104, Try.ntmps104
    go_wp2_with fail
    go_ret
    exact ⟨rfl, HW.out, Keeps.refl _ _, hp, he3⟩

set_option maxRecDepth 4000 in
set_option maxHeartbeats 1000000 in
theorem take108 (R : Nat) (b : ByteArray) (p e : Nat) (hb : b.size ≤ 1152921504606846976) (hp : RdIn b (p, e)) (w : World) (h : Rd w R b (p, e)) (a : Addr) (most : Int) (h1' : most ≤ 9223372036854775807) (haR : a.block ≠ R) (ha : w.cell? a = some (.int .i64 most)) :
    Calls Try.prog 108 #[.pointer (some ⟨R, 0, none⟩), .func (.func 109) #[] #[.pointer (some a)]] w fun e' w' => e' = .returned (.int .i64 ((rdInt most b (p, e)).1 : Nat)) ∧ Rd w' R b (rdInt most b (p, e)).2 ∧ Keeps [R] w w' ∧ RdIn b (rdInt most b (p, e)).2 := by
  obtain ⟨hp, he3⟩ := hp
  dsimp only at hp he3
  have h0 : w.cell? ⟨R, 0, none⟩ = some (.string b) := (h.cell 0).trans rfl
  have h1 : w.cell? ⟨R, 1, none⟩ = some (.int .i64 p) := (h.cell 1).trans rfl
  have h2 : w.cell? ⟨R, 2, none⟩ = some (.int .i64 e) := (h.cell 2).trans rfl
  have hz : ∀ j, w.frozen? ⟨R, j, none⟩ = false := h.frozen
  have HW := Aside.mk h
  clear h
  by_cases he : e = 0
  · subst he
    have hsz : (b.extract p b.size).size = b.size - p := by rw [ByteArray.size_extract]; omega
    have hsz2 : (b.extract p b.size).size ≤ 1152921504606846976 := by omega
    have c1 := Aside.mk (fun w ha => intFn_calls (b.extract p b.size) most hsz2 h1' a w ha)
    have ok := intT_ok (b.extract p b.size) most
    have hr : rdInt most b (p, 0) = if (intT (b.extract p b.size) most).2.2 ≠ 0 then (0, (p, (intT (b.extract p b.size) most).2.2)) else ((intT (b.extract p b.size) most).1, (p + (intT (b.extract p b.size) most).2.1, 0)) := by
      simp [rdInt, rd]
    have hv := intT_val (b.extract p b.size) most
    generalize intT (b.extract p b.size) most = r at c1 ok hr hv
    obtain ⟨n, k, e⟩ := r
    obtain ⟨hn, hk, hk10, he, hzz⟩ := ok
    generalize vtake (b.extract p b.size) = q at c1 hv
    obtain ⟨n', k', e'⟩ := q
    dsimp only at c1 hn hk hk10 he hzz hr hv
    by_cases h00 : e = 0
    · rw [if_neg (by simp [h00])] at hr
      have HR := Aside.mk hr
      clear hr
      subst h00
      have hpk : p + k ≤ b.size := by omega
      obtain ⟨rfl, rfl⟩ := hv rfl
      have hn9 : n' ≤ 9223372036854775807 := by omega
      have hwn : wrap64 (n' : Int) = (n' : Int) := IntWalk.wrap64_in _ (by omega)
      rw [hwn] at c1
      clear hwn
      go_enter Try.func108, Try.ntmps108
      go_wp2_with fail
      go_quiet ((go_at_call 109; exact Calls.quiet_of_same ((c1.out _ (by simpa using ha)).mono (fun _ _ h => ⟨h.1, h.2.symm⟩))))
      go_wp2
      go_ret
      rw [HR.out]
      exact ⟨rfl, set_place HW.out _ _ _ (by omega), ((Keeps.refl _ _).drewN _).setCell (.inl (by simp)) _, hpk, by simp⟩
    · rw [if_pos h00] at hr
      have b0 : ((e : Int) == 0) = false := by rw [beq_eq_false_iff_ne]; omega
      have b1 : ((e : Int) != 0) = true := by rw [bne_iff_ne]; omega
      have HR := Aside.mk hr
      clear hr
      go_enter Try.func108, Try.ntmps108
      go_wp2_with fail
      go_quiet ((go_at_call 109; exact Calls.quiet_of_same ((c1.out _ (by simpa using ha)).mono (fun _ _ h => ⟨h.1, h.2.symm⟩))))
      go_wp2
      go_ret
      rw [HR.out]
      exact ⟨rfl, set_err HW.out _ _, ((Keeps.refl _ _).drewN _).setCell (.inl (by simp)) _, hp, by dsimp only; omega⟩
  · have b0 : ((e : Int) == 0) = false := by rw [beq_eq_false_iff_ne]; omega
    have b1 : ((e : Int) != 0) = true := by rw [bne_iff_ne]; omega
    rw [show rdInt most b (p, e) = (0, (p, e)) from rd_err he]
    go_enter Try.func108, Try.ntmps108
    go_wp2_with fail
    go_ret
    exact ⟨rfl, HW.out, Keeps.refl _ _, hp, he3⟩

set_option maxRecDepth 4000 in
theorem num_calls (R : Nat) (b : ByteArray) (st : Nat × Nat) (hb : b.size ≤ 1152921504606846976) (hp : RdIn b st) (w : World) (h : Rd w R b st) :
    Calls Try.prog 73 #[.pointer (some ⟨R, 0, none⟩)] w fun e' w' => e' = .returned (.int .u64 ((rdNum b st).1 : Nat)) ∧ Rd w' R b (rdNum b st).2 ∧ Keeps [R] w w' ∧ RdIn b (rdNum b st).2 := by
  obtain ⟨p, e⟩ := st
  go_enter Try.func73, Try.ntmps73
  go_wp2_with fail
  refine (take107 R b p e hb hp _ h).mono ?_
  rintro e' w' ⟨rfl, h2, h3, h4⟩
  go_wp2_with fail
  go_ret
  exact ⟨rfl, h2, h3, h4⟩

set_option maxRecDepth 4000 in
theorem rest_calls (R : Nat) (b : ByteArray) (st : Nat × Nat) (hb : b.size ≤ 1152921504606846976) (hp : RdIn b st) (w : World) (h : Rd w R b st) :
    Calls Try.prog 71 #[.pointer (some ⟨R, 0, none⟩)] w fun e' w' => e' = .returned (.string (rdRest b st).1) ∧ Rd w' R b (rdRest b st).2 ∧ Keeps [R] w w' ∧ RdIn b (rdRest b st).2 := by
  obtain ⟨p, e⟩ := st
  go_enter Try.func71, Try.ntmps71
  go_wp2_with fail
  refine (takeRest R b p e hb hp _ h).mono ?_
  rintro e' w' ⟨rfl, h2, h3, h4⟩
  go_wp2_with fail
  go_ret
  exact ⟨rfl, h2, h3, h4⟩

set_option maxRecDepth 4000 in
theorem int_calls (R : Nat) (b : ByteArray) (st : Nat × Nat) (most : Int) (hm : most ≤ 9223372036854775807) (hb : b.size ≤ 1152921504606846976) (hp : RdIn b st) (w : World) (h : Rd w R b st) :
    Calls Try.prog 74 #[.pointer (some ⟨R, 0, none⟩), .int .i64 most] w fun e' w' => e' = .returned (.int .i64 ((rdInt most b st).1 : Nat)) ∧ Rd w' R b (rdInt most b st).2 ∧ Keeps [R] w w' ∧ RdIn b (rdInt most b st).2 := by
  obtain ⟨p, e⟩ := st
  have hlt := h.lt
  have hk := (Keeps.refl [R] w).alloc (.cells #[.int .i64 most] 3)
  have h' : Rd (w.alloc (.cells #[.int .i64 most] 3)) R b (p, e) := Whole.alloc h _
  have c1 := Aside.mk (fun hc => take108 R b p e hb hp _ h' ⟨w.heap.size, 0, none⟩ most hm (by simp; omega) hc)
  have H := Aside.mk h
  have HK := Aside.mk hk
  clear h h' hk
  go_enter Try.func74, Try.ntmps74
  go_wp2_with fail
  refine (c1.out ?_).mono ?_
  · simp
  rintro e' w' ⟨rfl, h2, h3, h4⟩
  go_wp2_with fail
  go_ret
  exact ⟨rfl, h2, HK.out.trans h3 (by simp), h4⟩

set_option maxRecDepth 4000 in
theorem text_calls (R : Nat) (b : ByteArray) (st : Nat × Nat) (most : Int) (hm : most ≤ 9223372036854775807) (hb : b.size ≤ 1152921504606846976) (hp : RdIn b st) (w : World) (h : Rd w R b st) :
    Calls Try.prog 69 #[.pointer (some ⟨R, 0, none⟩), .int .i64 most] w fun e' w' => e' = .returned (.string (rdText most b st).1) ∧ Rd w' R b (rdText most b st).2 ∧ Keeps [R] w w' ∧ RdIn b (rdText most b st).2 := by
  obtain ⟨p, e⟩ := st
  have hlt := h.lt
  have hk := (Keeps.refl [R] w).alloc (.cells #[.int .i64 most] 3)
  have h' : Rd (w.alloc (.cells #[.int .i64 most] 3)) R b (p, e) := Whole.alloc h _
  have c1 := Aside.mk (fun hc => takeText R b p e hb hp _ h' ⟨w.heap.size, 0, none⟩ most hm (by simp; omega) hc)
  have H := Aside.mk h
  have HK := Aside.mk hk
  clear h h' hk
  go_enter Try.func69, Try.ntmps69
  go_wp2_with fail
  refine (c1.out ?_).mono ?_
  · simp
  rintro e' w' ⟨rfl, h2, h3, h4⟩
  go_wp2_with fail
  go_ret
  exact ⟨rfl, h2, HK.out.trans h3 (by simp), h4⟩

/-- 2.2: what was wrong first, or that something is left. -/
def rdDone (b : ByteArray) (st : Nat × Nat) : Nat := if st.2 ≠ 0 then st.2 else if st.1 < b.size then 1 else 0

set_option maxRecDepth 4000 in
theorem done_calls (R : Nat) (b : ByteArray) (st : Nat × Nat) (hb : b.size ≤ 1152921504606846976) (hp : RdIn b st) (w : World) (h : Rd w R b st) :
    Calls Try.prog 72 #[.pointer (some ⟨R, 0, none⟩)] w fun e' w' => e' = .returned (.int .i64 (rdDone b st : Nat)) ∧ Keeps [] w w' := by
  obtain ⟨p, e⟩ := st
  obtain ⟨hp, he3⟩ := hp
  dsimp only at hp he3
  have h0 : w.cell? ⟨R, 0, none⟩ = some (.string b) := (h.cell 0).trans rfl
  have h1 : w.cell? ⟨R, 1, none⟩ = some (.int .i64 p) := (h.cell 1).trans rfl
  have h2 : w.cell? ⟨R, 2, none⟩ = some (.int .i64 e) := (h.cell 2).trans rfl
  clear h
  by_cases he : e = 0
  · subst he
    by_cases hlt : p < b.size
    · have hr : rdDone b (p, 0) = 1 := by simp [rdDone, hlt]
      rw [hr]
      clear hr
      go_enter Try.func72, Try.ntmps72
      go_wp2_with fail
      go_quiet (fail)
      go_wp2
      go_ret
      exact ⟨rfl, (Keeps.refl _ _).drewN _⟩
    · have hr : rdDone b (p, 0) = 0 := by simp [rdDone, hlt]
      rw [hr]
      clear hr
      go_enter Try.func72, Try.ntmps72
      go_wp2_with fail
      go_quiet (fail)
      go_wp2
      go_ret
      exact ⟨rfl, (Keeps.refl _ _).drewN _⟩
  · have b1 : ((e : Int) != 0) = true := by rw [bne_iff_ne]; omega
    have hr : rdDone b (p, e) = e := by simp [rdDone, he]
    rw [hr]
    clear hr
    go_enter Try.func72, Try.ntmps72
    go_wp2_with fail
    go_ret
    exact ⟨rfl, Keeps.refl _ _⟩

set_option maxRecDepth 4000 in
theorem at_calls (R : Nat) (b : ByteArray) (st : Nat × Nat) (w : World) (h : Rd w R b st) :
    Calls Try.prog 70 #[.pointer (some ⟨R, 0, none⟩)] w fun e' w' => e' = .returned (.int .i64 (st.1 : Nat)) ∧ w = w' := by
  obtain ⟨p, e⟩ := st
  have h1 : w.cell? ⟨R, 1, none⟩ = some (.int .i64 p) := (h.cell 1).trans rfl
  clear h
  go_enter Try.func70, Try.ntmps70
  go_wp2_with fail
  go_ret
  exact ⟨rfl, rfl⟩

set_option maxRecDepth 4000 in
theorem read_calls (b : ByteArray) (w : World) :
    Calls Try.prog 68 #[.string b] w fun e' w' => e' = .returned (.pointer (some ⟨w.heap.size, 0, none⟩)) ∧ Rd w' w.heap.size b (0, 0) ∧ Keeps [] w w' := by
  go_enter Try.func68, Try.ntmps68
  go_wp2_with fail
  go_ret
  exact ⟨rfl, Rd.new _ _, (Keeps.refl _ _).alloc _⟩

theorem RdIn.zero (b : ByteArray) : RdIn b (0, 0) := ⟨by simp, by simp⟩


end Go.Proofs.Ythcjcgagbpfkpaa

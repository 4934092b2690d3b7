/- The plain laws of bodies: what is put is taken within its bounds, and else not; what was taken is put so. -/
import Derived.Test.YthcjcgagbpfkpaaBack
import Derived.Test.YthcjcgagbpfkpaaCallTake
namespace Go.Proofs.Ythcjcgagbpfkpaa
set_option linter.unusedSimpArgs false
set_option linter.unusedVariables false

/-! ### Steps over what was put -/
section
variable {b s : ByteArray} {p n : Nat}
theorem num_put (hn : n < 18446744073709551616) (hp : p ≤ b.size) (h : b.extract p b.size = txt (vput n) ++ s) :
    rdNum b (p, 0) = (n, (p + (vput n).length, 0)) ∧ b.extract (p + (vput n).length) b.size = s ∧ p + (vput n).length ≤ b.size := by
  obtain ⟨h1, h2⟩ := rest_at_put hp h
  exact ⟨rdNum_good (by rw [h]; exact vtake_put hn s), h1, h2⟩
theorem int_put {M : Int} (hn : n < 18446744073709551616) (hm : n ≤ M.toNat) (hp : p ≤ b.size) (h : b.extract p b.size = txt (vput n) ++ s) :
    rdInt M b (p, 0) = (n, (p + (vput n).length, 0)) ∧ b.extract (p + (vput n).length) b.size = s ∧ p + (vput n).length ≤ b.size := by
  obtain ⟨h1, h2⟩ := rest_at_put hp h
  exact ⟨rdInt_good (by rw [h]; exact intT_put hn hm s), h1, h2⟩
theorem int_put_big {M : Int} (hn : n < 18446744073709551616) (hm : M.toNat < n) (h : b.extract p b.size = txt (vput n) ++ s) : rdInt M b (p, 0) = (0, (p, 3)) :=
  rdInt_bad (by rw [h]; exact intT_big hn hm s) (by decide)
theorem text_put {M : Int} {a : ByteArray} (ha : a.size < 18446744073709551616) (hm : a.size ≤ M.toNat) (hp : p ≤ b.size) (h : b.extract p b.size = spanText a ++ s) :
    rdText M b (p, 0) = (a, (p + (spanText a).size, 0)) ∧ b.extract (p + (spanText a).size) b.size = s ∧ p + (spanText a).size ≤ b.size := by
  obtain ⟨h1, h2⟩ := rest_at_span hp h
  exact ⟨rdText_good (by rw [h]; exact spanT_put ha hm s), h1, h2⟩
theorem spanT_big {M : Int} {a : ByteArray} (ha : a.size < 18446744073709551616) (hm : M.toNat < a.size) (s : ByteArray) : spanT (spanText a ++ s) M = (⟨#[]⟩, 0, 3) := by
  unfold spanT
  rw [show intT (spanText a ++ s) M = (0, 0, 3) from by unfold spanText; rw [ba_append_assoc]; exact intT_big ha hm _]
  rfl
theorem text_put_big {M : Int} {a : ByteArray} (ha : a.size < 18446744073709551616) (hm : M.toNat < a.size) (h : b.extract p b.size = spanText a ++ s) : rdText M b (p, 0) = (⟨#[]⟩, (p, 3)) :=
  rdText_bad (by rw [h]; exact spanT_big ha hm s) (by decide)
theorem rest_put (hp : p ≤ b.size) (h : b.extract p b.size = s) : rdRest b (p, 0) = (s, (b.size, 0)) ∧ rdDone b (b.size, 0) = 0 := by
  refine ⟨?_, rdDone_all (by omega)⟩
  rw [rdRest_good, h]
  have : s.size = b.size - p := by rw [← h, ByteArray.size_extract]; omega
  simp only [Prod.mk.injEq, and_true, true_and]
  omega

/-! ### Steps that went well -/
theorem num_inv {e v q : Nat} (hp : p ≤ b.size) (h : rdNum b (p, e) = (v, (q, 0))) : e = 0 ∧ b.extract p b.size = txt (vput v) ++ b.extract q b.size ∧ q ≤ b.size ∧ v < 18446744073709551616 := by
  have hv : v < 18446744073709551616 := by have := rdNum_lt (b := b) (st := (p, e)); rw [h] at this; exact this
  by_cases he : e = 0
  · subst he
    obtain ⟨n, k, f, h1⟩ := trip_ex (vtake (b.extract p b.size))
    by_cases hf : f = 0
    · subst hf
      rw [rdNum_good h1] at h
      simp only [Prod.mk.injEq, and_true] at h
      obtain ⟨rfl, rfl⟩ := h
      obtain ⟨a1, a2, _⟩ := vtake_at hp h1
      exact ⟨rfl, a1, a2, hv⟩
    · rw [rdNum_bad h1 hf] at h
      simp only [Prod.mk.injEq] at h
      exact absurd h.2.2 hf
  · rw [rdNum_err he] at h
    simp only [Prod.mk.injEq] at h
    exact absurd h.2.2 he
theorem int_inv {M : Int} {e v q : Nat} (hp : p ≤ b.size) (h : rdInt M b (p, e) = (v, (q, 0))) : e = 0 ∧ b.extract p b.size = txt (vput v) ++ b.extract q b.size ∧ q ≤ b.size ∧ v ≤ M.toNat := by
  by_cases he : e = 0
  · subst he
    obtain ⟨n, k, f, h1⟩ := trip_ex (intT (b.extract p b.size) M)
    by_cases hf : f = 0
    · subst hf
      rw [rdInt_good h1] at h
      simp only [Prod.mk.injEq, and_true] at h
      obtain ⟨rfl, rfl⟩ := h
      obtain ⟨v1, m1⟩ := intT_back h1
      obtain ⟨a1, a2, _⟩ := vtake_at hp v1
      exact ⟨rfl, a1, a2, m1⟩
    · rw [rdInt_bad h1 hf] at h
      simp only [Prod.mk.injEq] at h
      exact absurd h.2.2 hf
  · rw [rdInt_err he] at h
    simp only [Prod.mk.injEq] at h
    exact absurd h.2.2 he
theorem text_inv {M : Int} {e q : Nat} {v : ByteArray} (hp : p ≤ b.size) (h : rdText M b (p, e) = (v, (q, 0))) : e = 0 ∧ b.extract p b.size = spanText v ++ b.extract q b.size ∧ q ≤ b.size ∧ v.size ≤ M.toNat := by
  by_cases he : e = 0
  · subst he
    obtain ⟨n, k, f, h1⟩ := trip_ex (spanT (b.extract p b.size) M)
    by_cases hf : f = 0
    · subst hf
      rw [rdText_good h1] at h
      simp only [Prod.mk.injEq, and_true] at h
      obtain ⟨rfl, rfl⟩ := h
      obtain ⟨a1, a2, _, a4⟩ := spanT_at hp h1
      exact ⟨rfl, a1, a2, a4⟩
    · rw [rdText_bad h1 hf] at h
      simp only [Prod.mk.injEq] at h
      exact absurd h.2.2 hf
  · rw [rdText_err he] at h
    simp only [Prod.mk.injEq] at h
    exact absurd h.2.2 he
theorem rest_inv {e q : Nat} {v : ByteArray} (hp : p ≤ b.size) (h : rdRest b (p, e) = (v, (q, 0))) : e = 0 ∧ b.extract p b.size = v := by
  by_cases he : e = 0
  · subst he
    rw [rdRest_good] at h
    simp only [Prod.mk.injEq, and_true] at h
    exact ⟨rfl, h.1⟩
  · rw [rdRest_err he] at h
    simp only [Prod.mk.injEq] at h
    exact absurd h.2.2 he
theorem done_inv {e : Nat} (h : rdDone b (p, e) = 0) : e = 0 ∧ b.size ≤ p := by
  unfold rdDone at h
  dsimp only at h
  by_cases he : e = 0
  · rw [if_neg (by simp [he])] at h
    by_cases hp : p < b.size
    · rw [if_pos hp] at h; cases h
    · exact ⟨he, by omega⟩
  · rw [if_pos he] at h; exact absurd h he
theorem end_of {q : Nat} (hq : q ≤ b.size) (h : b.size ≤ q) (he : b.extract p b.size = s ++ b.extract q b.size) : b.extract p b.size = s := by
  obtain rfl : q = b.size := by omega
  rw [he, extract_end, append_nil_txt]
end

/-! ### Calls -/
theorem toNat_M : (1048576 : Int).toNat = 1048576 := rfl
theorem toNat_16 : (16 : Int).toNat = 16 := rfl

theorem callT_put (id w n : Nat) (s : ByteArray) (hid : id < 18446744073709551616) (hw : w < 18446744073709551616) (hn : n < 18446744073709551616) :
    (w ≤ 1048576 ∧ n ≤ 1048576 → callT (callText id w n s) = ((id, w, n, s), 0)) ∧ (¬ (w ≤ 1048576 ∧ n ≤ 1048576) → callT (callText id w n s) = ((0, 0, 0, ⟨#[]⟩), 1)) := by
  obtain ⟨b, hb⟩ : ∃ b, b = callText id w n s := ⟨_, rfl⟩
  rw [← hb]
  have e0 : b.extract 0 b.size = txt (vput id) ++ (txt (vput w) ++ (txt (vput n) ++ s)) := by
    rw [extract_all, hb, callText, Int.toNat_natCast, Int.toNat_natCast, ba_append_assoc, ba_append_assoc]
  obtain ⟨r1, x1, l1⟩ := num_put hid (Nat.zero_le _) e0
  rw [Nat.zero_add] at r1 x1 l1
  by_cases h1 : w ≤ 1048576
  · obtain ⟨r2, x2, l2⟩ := int_put (M := 1048576) hw (by rw [toNat_M]; exact h1) l1 x1
    by_cases h2 : n ≤ 1048576
    · obtain ⟨r3, x3, l3⟩ := int_put (M := 1048576) hn (by rw [toNat_M]; exact h2) l2 x2
      obtain ⟨r4, r5⟩ := rest_put l3 x3
      exact ⟨fun _ => (callT_chain b r1 r2 r3 r4 r5).2 rfl, fun h => absurd ⟨h1, h2⟩ h⟩
    · have r3 := int_put_big (M := 1048576) hn (by rw [toNat_M]; omega) x2
      exact ⟨fun h => absurd h.2 h2, fun _ => (callT_chain b r1 r2 r3 (rdRest_err (by decide)) (rdDone_err (by decide))).1 (by decide)⟩
  · have r2 := int_put_big (M := 1048576) hw (by rw [toNat_M]; omega) x1
    exact ⟨fun h => absurd h.1 h1, fun _ => (callT_chain b r1 r2 (rdInt_err (by decide)) (rdRest_err (by decide)) (rdDone_err (by decide))).1 (by decide)⟩

theorem callT_back {b : ByteArray} {id w n : Nat} {s : ByteArray} (h : callT b = ((id, w, n, s), 0)) : callText id w n s = b ∧ id < 18446744073709551616 ∧ w ≤ 1048576 ∧ n ≤ 1048576 ∧ s.size ≤ b.size := by
  obtain ⟨v1, ⟨p1, f1⟩, e1⟩ := pair_ex (rdNum b (0, 0))
  obtain ⟨v2, ⟨p2, f2⟩, e2⟩ := pair_ex (rdInt 1048576 b (p1, f1))
  obtain ⟨v3, ⟨p3, f3⟩, e3⟩ := pair_ex (rdInt 1048576 b (p2, f2))
  obtain ⟨v4, ⟨p4, f4⟩, e4⟩ := pair_ex (rdRest b (p3, f3))
  obtain ⟨d, e0⟩ : ∃ d, rdDone b (p4, f4) = d := ⟨_, rfl⟩
  obtain ⟨c1, c2⟩ := callT_chain b e1 e2 e3 e4 e0
  by_cases hd : d = 0
  · rw [c2 hd] at h
    simp only [Prod.mk.injEq, and_true] at h
    obtain ⟨rfl, rfl, rfl, rfl⟩ := h
    obtain ⟨hf4, hp4⟩ := done_inv (e0.trans hd)
    subst hf4
    have q1 := (rdNum_in' e1 (RdIn.zero b)).1.1
    have q2 := (rdInt_in' e2 (rdNum_in' e1 (RdIn.zero b)).1).1.1
    have q3 := (rdInt_in' e3 (rdInt_in' e2 (rdNum_in' e1 (RdIn.zero b)).1).1).1.1
    obtain ⟨hf3, a4⟩ := rest_inv q3 e4
    subst hf3
    obtain ⟨hf2, a3, _, m3⟩ := int_inv q2 e3
    subst hf2
    obtain ⟨hf1, a2, _, m2⟩ := int_inv q1 e2
    subst hf1
    obtain ⟨_, a1, _, m1⟩ := num_inv (Nat.zero_le _) e1
    rw [toNat_M] at m2 m3
    refine ⟨?_, m1, m2, m3, ?_⟩
    · rw [callText, Int.toNat_natCast, Int.toNat_natCast, ba_append_assoc, ba_append_assoc, ← a4, ← a3, ← a2, ← a1, extract_all]
    · rw [← a4, ByteArray.size_extract]; omega
  · rw [c1 hd] at h
    simp at h

/-! ### Binds -/
theorem bindT_put (id num op : Nat) (sv mt : ByteArray) (hid : id < 18446744073709551616) (hn : num < 18446744073709551616) (ho : op < 18446744073709551616) (hsv : sv.size < 18446744073709551616) (hmt : mt.size < 18446744073709551616) :
    (num ≤ 1048576 ∧ op ≤ 1048576 ∧ sv.size ≤ 16 ∧ mt.size ≤ 16 → bindT (bindText id num sv mt op) = ((id, num, sv, mt, op), 0)) ∧
    (¬ (num ≤ 1048576 ∧ op ≤ 1048576 ∧ sv.size ≤ 16 ∧ mt.size ≤ 16) → bindT (bindText id num sv mt op) = ((0, 0, ⟨#[]⟩, ⟨#[]⟩, 0), 1)) := by
  obtain ⟨b, hb⟩ : ∃ b, b = bindText id num sv mt op := ⟨_, rfl⟩
  rw [← hb]
  have e0 : b.extract 0 b.size = txt (vput id) ++ (txt (vput num) ++ (spanText sv ++ (spanText mt ++ (txt (vput op) ++ txt [])))) := by
    rw [extract_all, hb, bindText, Int.toNat_natCast, Int.toNat_natCast, ba_append_assoc, ba_append_assoc, ba_append_assoc, append_nil_txt]
  obtain ⟨r1, x1, l1⟩ := num_put hid (Nat.zero_le _) e0
  rw [Nat.zero_add] at r1 x1 l1
  by_cases h1 : num ≤ 1048576
  · obtain ⟨r2, x2, l2⟩ := int_put (M := 1048576) hn (by rw [toNat_M]; exact h1) l1 x1
    by_cases h2 : sv.size ≤ 16
    · obtain ⟨r3, x3, l3⟩ := text_put (M := 16) hsv (by rw [toNat_16]; exact h2) l2 x2
      by_cases h3 : mt.size ≤ 16
      · obtain ⟨r4, x4, l4⟩ := text_put (M := 16) hmt (by rw [toNat_16]; exact h3) l3 x3
        by_cases h4 : op ≤ 1048576
        · obtain ⟨r5, x5, l5⟩ := int_put (M := 1048576) ho (by rw [toNat_M]; exact h4) l4 x4
          have hz : ¬ ((vput id).length + (vput num).length + (spanText sv).size + (spanText mt).size + (vput op).length) < b.size := by
            have hz : (b.extract 0 b.size).size = b.size := by rw [extract_all]
            rw [e0] at hz
            simp only [ByteArray.size_append, txt_size, List.length_nil] at hz
            omega
          exact ⟨fun _ => (bindT_chain b r1 r2 r3 r4 r5 (rdDone_all hz)).2 rfl, fun h => absurd ⟨h1, h4, h2, h3⟩ h⟩
        · have r5 := int_put_big (M := 1048576) ho (by rw [toNat_M]; omega) x4
          exact ⟨fun h => absurd h.2.1 h4, fun _ => (bindT_chain b r1 r2 r3 r4 r5 (rdDone_err (by decide))).1 (by decide)⟩
      · have r4 := text_put_big (M := 16) hmt (by rw [toNat_16]; omega) x3
        exact ⟨fun h => absurd h.2.2.2 h3, fun _ => (bindT_chain b r1 r2 r3 r4 (rdInt_err (by decide)) (rdDone_err (by decide))).1 (by decide)⟩
    · have r3 := text_put_big (M := 16) hsv (by rw [toNat_16]; omega) x2
      exact ⟨fun h => absurd h.2.2.1 h2, fun _ => (bindT_chain b r1 r2 r3 (rdText_err (by decide)) (rdInt_err (by decide)) (rdDone_err (by decide))).1 (by decide)⟩
  · have r2 := int_put_big (M := 1048576) hn (by rw [toNat_M]; omega) x1
    exact ⟨fun h => absurd h.1 h1, fun _ => (bindT_chain b r1 r2 (rdText_err (by decide)) (rdText_err (by decide)) (rdInt_err (by decide)) (rdDone_err (by decide))).1 (by decide)⟩

theorem bindT_back {b : ByteArray} {id num op : Nat} {sv mt : ByteArray} (h : bindT b = ((id, num, sv, mt, op), 0)) :
    bindText id num sv mt op = b ∧ id < 18446744073709551616 ∧ num ≤ 1048576 ∧ op ≤ 1048576 ∧ sv.size ≤ 16 ∧ mt.size ≤ 16 := by
  obtain ⟨v1, ⟨p1, f1⟩, e1⟩ := pair_ex (rdNum b (0, 0))
  obtain ⟨v2, ⟨p2, f2⟩, e2⟩ := pair_ex (rdInt 1048576 b (p1, f1))
  obtain ⟨v3, ⟨p3, f3⟩, e3⟩ := pair_ex (rdText 16 b (p2, f2))
  obtain ⟨v4, ⟨p4, f4⟩, e4⟩ := pair_ex (rdText 16 b (p3, f3))
  obtain ⟨v5, ⟨p5, f5⟩, e5⟩ := pair_ex (rdInt 1048576 b (p4, f4))
  obtain ⟨d, e0⟩ : ∃ d, rdDone b (p5, f5) = d := ⟨_, rfl⟩
  obtain ⟨c1, c2⟩ := bindT_chain b e1 e2 e3 e4 e5 e0
  by_cases hd : d = 0
  · rw [c2 hd] at h
    simp only [Prod.mk.injEq, and_true] at h
    obtain ⟨rfl, rfl, rfl, rfl, rfl⟩ := h
    obtain ⟨hf5, hp5⟩ := done_inv (e0.trans hd)
    subst hf5
    have i1 := (rdNum_in' e1 (RdIn.zero b)).1
    have i2 := (rdInt_in' e2 i1).1
    have i3 := rdText_in' e3 i2
    have i4 := rdText_in' e4 i3
    obtain ⟨hf4, a5, g5, m5⟩ := int_inv i4.1 e5
    subst hf4
    obtain ⟨hf3, a4, _, m4⟩ := text_inv i3.1 e4
    subst hf3
    obtain ⟨hf2, a3, _, m3⟩ := text_inv i2.1 e3
    subst hf2
    obtain ⟨hf1, a2, _, m2⟩ := int_inv i1.1 e2
    subst hf1
    obtain ⟨_, a1, _, m1⟩ := num_inv (Nat.zero_le _) e1
    rw [toNat_M] at m2 m5
    rw [toNat_16] at m3 m4
    have a5' := end_of g5 hp5 a5
    refine ⟨?_, m1, m2, m5, m3, m4⟩
    rw [bindText, Int.toNat_natCast, Int.toNat_natCast, ba_append_assoc, ba_append_assoc, ba_append_assoc, ← a5', ← a4, ← a3, ← a2, ← a1, extract_all]
  · rw [c1 hd] at h
    simp at h

/-! ### Schemas and cancels -/
theorem schemaT_put (id : Nat) (s : ByteArray) (hid : id < 18446744073709551616) : schemaT (txt (vput id) ++ s) = ((id, s), 0) := by
  obtain ⟨b, hb⟩ : ∃ b, b = txt (vput id) ++ s := ⟨_, rfl⟩
  rw [← hb]
  have e0 : b.extract 0 b.size = txt (vput id) ++ s := by rw [extract_all, hb]
  obtain ⟨r1, x1, l1⟩ := num_put hid (Nat.zero_le _) e0
  rw [Nat.zero_add] at r1 x1 l1
  obtain ⟨r4, r5⟩ := rest_put l1 x1
  exact (schemaT_chain b r1 r4 r5).2 rfl
theorem schemaT_back {b s : ByteArray} {id : Nat} (h : schemaT b = ((id, s), 0)) : txt (vput id) ++ s = b ∧ id < 18446744073709551616 ∧ s.size ≤ b.size := by
  obtain ⟨v1, ⟨p1, f1⟩, e1⟩ := pair_ex (rdNum b (0, 0))
  obtain ⟨v4, ⟨p4, f4⟩, e4⟩ := pair_ex (rdRest b (p1, f1))
  obtain ⟨d, e0⟩ : ∃ d, rdDone b (p4, f4) = d := ⟨_, rfl⟩
  obtain ⟨c1, c2⟩ := schemaT_chain b e1 e4 e0
  by_cases hd : d = 0
  · rw [c2 hd] at h
    simp only [Prod.mk.injEq, and_true] at h
    obtain ⟨rfl, rfl⟩ := h
    obtain ⟨hf4, hp4⟩ := done_inv (e0.trans hd)
    subst hf4
    have q1 := (rdNum_in' e1 (RdIn.zero b)).1.1
    obtain ⟨hf3, a4⟩ := rest_inv q1 e4
    subst hf3
    obtain ⟨_, a1, _, m1⟩ := num_inv (Nat.zero_le _) e1
    refine ⟨?_, m1, ?_⟩
    · rw [← a4, ← a1, extract_all]
    · rw [← a4, ByteArray.size_extract]; omega
  · rw [c1 hd] at h
    simp at h
theorem cancelT_put (id : Nat) (hid : id < 18446744073709551616) : cancelT (txt (vput id)) = (id, 0) := by
  obtain ⟨b, hb⟩ : ∃ b, b = txt (vput id) := ⟨_, rfl⟩
  rw [← hb]
  have e0 : b.extract 0 b.size = txt (vput id) ++ txt [] := by rw [extract_all, append_nil_txt, hb]
  obtain ⟨r1, x1, l1⟩ := num_put hid (Nat.zero_le _) e0
  rw [Nat.zero_add] at r1 x1 l1
  have hz : ¬ (vput id).length < b.size := by rw [hb, txt_size]; omega
  exact (cancelT_chain b r1 (rdDone_all hz)).2 rfl
theorem cancelT_back {b : ByteArray} {id : Nat} (h : cancelT b = (id, 0)) : txt (vput id) = b ∧ id < 18446744073709551616 := by
  obtain ⟨v1, ⟨p1, f1⟩, e1⟩ := pair_ex (rdNum b (0, 0))
  obtain ⟨d, e0⟩ : ∃ d, rdDone b (p1, f1) = d := ⟨_, rfl⟩
  obtain ⟨c1, c2⟩ := cancelT_chain b e1 e0
  by_cases hd : d = 0
  · rw [c2 hd] at h
    simp only [Prod.mk.injEq, and_true] at h
    subst h
    obtain ⟨hf4, hp4⟩ := done_inv (e0.trans hd)
    subst hf4
    obtain ⟨_, a1, g1, m1⟩ := num_inv (Nat.zero_le _) e1
    have a1' := end_of g1 hp4 a1
    exact ⟨by rw [← a1', extract_all], m1⟩
  · rw [c1 hd] at h
    simp at h

end Go.Proofs.Ythcjcgagbpfkpaa

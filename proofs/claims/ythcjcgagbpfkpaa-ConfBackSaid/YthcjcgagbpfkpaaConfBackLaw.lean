/- The plain law of a configuration's bytes: what is put is taken, what is taken is put so. -/
import Derived.Test.YthcjcgagbpfkpaaConfBytes
import Derived.Test.YthcjcgagbpfkpaaCallLaw
namespace Go.Proofs.Ythcjcgagbpfkpaa
set_option linter.unusedVariables false
set_option linter.unusedSimpArgs false

theorem cput_pre (m : Nat → Nat) (k : Nat) : ∀ d, ∃ t, cput m (k + d) = cput m k ++ t
  | 0 => ⟨[], by simp⟩
  | d + 1 => by
    obtain ⟨t, ht⟩ := cput_pre m k d
    exact ⟨t ++ vput (m (k + d)), by show cput m (k + d) ++ vput (m (k + d)) = _; rw [ht, List.append_assoc]⟩

/-- Reading what was put, number by number. -/
theorem put_reads (m : Nat → Nat) (hm : ∀ i, i < 9 → m i ≤ 1048576) : ∀ k, k ≤ 9 → rdSt (txt (cput m 9)) k = ((cput m k).length, 0)
  | 0, _ => rfl
  | k + 1, hk => by
    have ih := put_reads m hm k (by omega)
    obtain ⟨t, ht⟩ := cput_pre m (k + 1) (9 - (k + 1))
    rw [show k + 1 + (9 - (k + 1)) = 9 by omega] at ht
    have e1 : cput m 9 = cput m k ++ (vput (m k) ++ t) := by rw [ht]; show cput m k ++ vput (m k) ++ t = _; rw [List.append_assoc]
    have e2 : txt (cput m 9) = txt (cput m k) ++ (txt (vput (m k)) ++ txt t) := by rw [txt_append, txt_append, e1]
    have hsz : (txt (cput m 9)).size = (cput m k).length + ((vput (m k)).length + t.length) := by rw [e1, txt_size]; simp
    have hex : (txt (cput m 9)).extract (cput m k).length (txt (cput m 9)).size = txt (vput (m k)) ++ txt t := by
      rw [e2]
      exact extract_put (by rw [txt_size])
    have hmk := hm k (by omega)
    have h := (int_put (M := 1048576) (by omega) (by show m k ≤ 1048576; omega) (by omega) hex).1
    show (rdInt 1048576 (txt (cput m 9)) (rdSt (txt (cput m 9)) k)).2 = _
    rw [ih, h]
    show _ = ((cput m k ++ vput (m k)).length, 0)
    rw [List.length_append]
theorem put_vals (m : Nat → Nat) (hm : ∀ i, i < 9 → m i ≤ 1048576) (k : Nat) (hk : k < 9) : rdV (txt (cput m 9)) k = m k := by
  have ih := put_reads m hm k (by omega)
  obtain ⟨t, ht⟩ := cput_pre m (k + 1) (9 - (k + 1))
  rw [show k + 1 + (9 - (k + 1)) = 9 by omega] at ht
  have e1 : cput m 9 = cput m k ++ (vput (m k) ++ t) := by rw [ht]; show cput m k ++ vput (m k) ++ t = _; rw [List.append_assoc]
  have e2 : txt (cput m 9) = txt (cput m k) ++ (txt (vput (m k)) ++ txt t) := by rw [txt_append, txt_append, e1]
  have hsz : (txt (cput m 9)).size = (cput m k).length + ((vput (m k)).length + t.length) := by rw [e1, txt_size]; simp
  have hex : (txt (cput m 9)).extract (cput m k).length (txt (cput m 9)).size = txt (vput (m k)) ++ txt t := by
    rw [e2]
    exact extract_put (by rw [txt_size])
  have hmk := hm k hk
  have h := (int_put (M := 1048576) (by omega) (by show m k ≤ 1048576; omega) (by omega) hex).1
  show (rdInt 1048576 (txt (cput m 9)) (rdSt (txt (cput m 9)) k)).1 = _
  rw [ih, h]
theorem put_done (m : Nat → Nat) (hm : ∀ i, i < 9 → m i ≤ 1048576) : rdDone (txt (cput m 9)) (rdSt (txt (cput m 9)) 9) = 0 := by
  rw [put_reads m hm 9 (by omega)]
  exact rdDone_all (by rw [txt_size]; omega)

theorem of_ok {c : Nat → Int} (h : checkRes c = 0) : ofRes c = c := by
  unfold ofRes
  rw [if_pos]
  unfold checkRes at h
  split at h
  · assumption
  · omega
theorem of_bad {c : Nat → Int} (h : checkRes c = 1) : ofRes c = fun _ => 0 := by
  unfold ofRes
  rw [if_neg]
  intro hok
  unfold checkRes at h
  rw [if_pos hok] at h
  omega

theorem take_put {c : Nat → Int} (h : checkRes c = 0) : takeErr (putTxt c) = 0 ∧ confCells (takeRes (putTxt c)) = confCells c := by
  unfold takeErr takeRes putTxt
  rw [if_pos h, put_done (natsOf c) (nats_le h), if_pos rfl, if_pos rfl]
  have e : ∀ i, i < 9 → natC (rdV (txt (cput (natsOf c) 9))) i = c i := fun i hi => by
    rw [nats_eq h i hi]
    unfold natC
    rw [put_vals (natsOf c) (nats_le h) i hi]
  have hck : checkRes (natC (rdV (txt (cput (natsOf c) 9)))) = 0 := by rw [check_congr e]; exact h
  exact ⟨hck, by rw [of_ok hck]; exact cells_congr e⟩
theorem rdInt_empty : rdInt 1048576 ⟨#[]⟩ (0, 0) = (0, (0, 2)) := by
  have hv : intT ((⟨#[]⟩ : ByteArray).extract 0 (⟨#[]⟩ : ByteArray).size) 1048576 = (0, 0, 2) := by
    rw [extract_all]
    unfold intT vtake
    simp [tk]
  exact rdInt_bad hv (by decide)
theorem take_empty : takeErr ⟨#[]⟩ = 1 := by
  have h1 : (rdSt ⟨#[]⟩ 1).2 ≠ 0 := by
    show (rdInt 1048576 ⟨#[]⟩ (0, 0)).2.2 ≠ 0
    rw [rdInt_empty]
    decide
  have h2 := rdSt_err ⟨#[]⟩ 1 h1 8
  unfold takeErr
  rw [if_neg (done_err h2)]
theorem take_put_err (c : Nat → Int) : takeErr (putTxt c) = checkRes c := by
  rcases check_cases c with h | h
  · rw [h]; exact (take_put h).1
  · rw [h]
    unfold putTxt
    rw [if_neg (by omega)]
    exact take_empty

/-- What was taken is the bytes. -/
theorem taken_bytes (b : ByteArray) (h : rdDone b (rdSt b 9) = 0) : ∀ k, k ≤ 9 → ∃ p, rdSt b k = (p, 0) ∧ p ≤ b.size ∧ b = txt (cput (rdV b) k) ++ b.extract p b.size
  | 0, _ => ⟨0, rfl, by omega, by
      rw [extract_all]
      show b = txt [] ++ b
      apply ByteArray.ext
      simp [txt]⟩
  | k + 1, hk => by
    obtain ⟨p, hp, hpb, hb⟩ := taken_bytes b h k (by omega)
    have h0 : (rdSt b (k + 1)).2 = 0 := by
      by_cases hz : (rdSt b (k + 1)).2 = 0
      · exact hz
      · have h3 := rdSt_err b (k + 1) hz (8 - k)
        rw [show k + 1 + (8 - k) = 9 by omega] at h3
        exact absurd h (done_err h3)
    obtain ⟨q, e, hq⟩ := pair_ex (rdSt b (k + 1))
    rw [hq] at h0
    dsimp only at h0
    subst h0
    have hs := rdSt_step b k
    rw [hp, hq] at hs
    obtain ⟨_, h1, h2, _⟩ := int_inv hpb hs
    refine ⟨q, hq, h2, ?_⟩
    show b = txt (cput (rdV b) k ++ vput (rdV b k)) ++ _
    rw [← txt_append, ba_append_assoc, ← h1]
    exact hb
theorem taken_put (b : ByteArray) (h : rdDone b (rdSt b 9) = 0) : txt (cput (rdV b) 9) = b := by
  obtain ⟨p, hp, hpb, hb⟩ := taken_bytes b h 9 (by omega)
  have hd := h
  rw [hp] at hd
  obtain ⟨_, hle⟩ := done_inv hd
  have : p = b.size := by omega
  rw [this] at hb
  rw [show b.extract b.size b.size = txt [] from extract_end b, txt_append, List.append_nil] at hb
  exact hb.symm

theorem take_cases (b : ByteArray) : (takeErr b = 1 ∧ takeRes b = fun _ => 0) ∨ (takeErr b = 0 ∧ checkRes (takeRes b) = 0 ∧ putTxt (takeRes b) = b ∧ 1040 ≤ takeRes b 0) := by
  unfold takeErr takeRes
  by_cases h : rdDone b (rdSt b 9) = 0
  · rw [if_pos h, if_pos h]
    rcases check_cases (natC (rdV b)) with hc | hc
    · right
      rw [of_ok hc]
      refine ⟨hc, hc, ?_, ?_⟩
      · unfold putTxt
        rw [if_pos hc]
        have : natsOf (natC (rdV b)) = rdV b := by funext i; simp [natsOf, natC]
        rw [this]
        exact taken_put b h
      · have := (check_ok hc 0 (by omega)).1
        exact this
    · left
      exact ⟨hc, of_bad hc⟩
  · rw [if_neg h, if_neg h]
    exact .inl ⟨rfl, rfl⟩
end Go.Proofs.Ythcjcgagbpfkpaa

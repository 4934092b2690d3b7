/- The document's Take of a configuration's bytes. -/
import Derived.Test.YthcjcgagbpfkpaaCTake
import Derived.Test.YthcjcgagbpfkpaaBack
namespace Go.Proofs.Ythcjcgagbpfkpaa
set_option linter.unusedVariables false
set_option linter.unusedSimpArgs false
open Go.RowKit

theorem trip3 {α β γ : Type} (x : α × β × γ) : ∃ a b c, x = (a, b, c) := ⟨x.1, x.2.1, x.2.2, rfl⟩
theorem ext_ext (b : ByteArray) (p k : Nat) (h : k ≤ (b.extract p b.size).size) : (b.extract p b.size).extract k (b.extract p b.size).size = b.extract (p + k) b.size := by
  rw [ByteArray.size_extract] at h ⊢
  rw [ByteArray.extract_extract]
  congr 1
  omega

theorem loop_len (s : ByteArray) (i : Nat) (r : List UInt8) : (ByteArray.toList.loop s i r).length = r.length + (s.size - i) := by
  unfold ByteArray.toList.loop
  split
  · rw [loop_len s (i + 1)]
    simp
    omega
  · simp
    omega
termination_by s.size - i
theorem toList_ne {s : ByteArray} (h : s ≠ ⟨#[]⟩) : s.toList ≠ [] := by
  intro h2
  have := loop_len s 0 []
  have e : ByteArray.toList.loop s 0 [] = [] := h2
  rw [e] at this
  simp at this
  apply h
  cases s with
  | mk data => cases data with
    | mk l => cases l with
      | nil => rfl
      | cons x l => simp [ByteArray.size] at this

set_option maxRecDepth 100000 in
set_option maxHeartbeats 8000000 in
theorem rcTake_at (b : ByteArray) (hb : b.size ≤ 1152921504606846976) (st : Nat → Nat × Nat) (vv : Nat → Nat) (vs : Nat → List Value) (h0 : st 0 = (0, 0)) (hv0 : vs 0 = []) (hvs : ∀ k, vs (k + 1) = vs k ++ [.int .i64 (vv k : Nat)])
    (hat : ∀ i, i < 9 → (vs 9)[i]? = some (.int .i64 (vv i : Nat))) (d : Nat)
    (hin : ∀ k p, st k = (p, 0) → p ≤ b.size)
    (hgo : ∀ k p n q, k < 9 → st k = (p, 0) → intT (b.extract p b.size) 1048576 = (n, q, 0) → st (k + 1) = (p + q, 0) ∧ vv k = n)
    (hno : ∀ k p n q e, k < 9 → st k = (p, 0) → intT (b.extract p b.size) 1048576 = (n, q, e) → e ≠ 0 → d ≠ 0)
    (hend : ∀ p, st 9 = (p, 0) → (d = 0 ↔ p = b.size)) (f : Nat → Int) (res : Int)
    (hres : (d = 0 ∧ ofRes (natC vv) = f ∧ checkRes (natC vv) = res) ∨ (d ≠ 0 ∧ (fun _ => 0) = f ∧ 1 = res)) (w : World) :
    Calls Try.prog 48 #[.string b] w fun e w' => e = .returned (.tuple #[.agg (confCells f), .int .i64 res]) ∧ Keeps [] w w' := by
  have HRES := Aside.mk hres
  have HB := Aside.mk hb
  have HV0 := Aside.mk hv0
  have HVS := Aside.mk hvs
  have HAT := Aside.mk hat
  have HIN := Aside.mk hin
  have HGO := Aside.mk hgo
  have HNO := Aside.mk hno
  have HEND := Aside.mk hend
  have H0 : Aside (∃ p, st 0 = (p, 0) ∧ b = b.extract p b.size) := ⟨0, h0, (extract_all b).symm⟩
  clear hres hb hv0 hvs hat hin hgo hno hend h0
  obtain ⟨i0, hi, hz0, hz1, hz2⟩ := info_parts info3c
  go_enter Try.func48, Try.ntmps48
  go_wp2_with fail
  obtain ⟨S, hS⟩ : ∃ S, S = w.heap.size := ⟨_, rfl⟩
  obtain ⟨w1, hw1⟩ : ∃ w1, w1 = w.alloc (.cells (confCells fun _ => 0) 62) := ⟨_, rfl⟩
  have HZ1 : Aside (Whole w1 S 62 (confCells fun _ => 0)) := ⟨by rw [hw1, hS]; exact Whole.new w 62 (confCells fun _ => 0)⟩
  have HK1 : Aside (Keeps [] w w1) := ⟨by rw [hw1]; exact (Keeps.refl [] w).alloc _⟩
  have HS := Aside.mk hS
  have hw1' := hw1
  simp only [confCells] at hw1'
  rw [← hw1', ← hS]
  clear hS hw1 hw1'
  go_loopw [0, 4, 5] (fun v0 v4 v5 wr => ∃ (k : Nat) (s : ByteArray), k ≤ 9 ∧ v5 = .int .i64 k ∧ v0 = .string s ∧ Aside (∃ p, st k = (p, 0) ∧ s = b.extract p b.size) ∧ Aside (wr.ownsRow w1.heap.size 3 1 v4 k (vs k) ∧ Keeps [] w1 wr)) (fun _ _ v5 _ => 9 - (intOf v5).toNat)
  case atStart => exact ⟨0, b, by omega, rfl, rfl, H0, ⟨by rw [HV0.out]; exact World.ownsRow_nil _ _ _ _, Keeps.refl _ _⟩⟩
  case round =>
    obtain ⟨k, s, hk, rfl, rfl, HP, HI⟩ := hrel
    obtain ⟨p, hp, hs⟩ := HP.out
    have hpb := HIN.out k p hp
    have hss : s.size ≤ b.size := by rw [hs, ByteArray.size_extract]; omega
    have hsz : s.size ≤ 1152921504606846976 := by have := HB.out; omega
    have HPP := Aside.mk hp
    have HSS := Aside.mk hs
    have HPB := Aside.mk hpb
    have hown := HI.out.1
    have HO := Aside.mk hown
    have HKP := Aside.mk HI.out.2
    clear hp hs hpb hss hown HI HP
    by_cases hlt : k < 9
    · have hki : (k : Int) < 9 := by omega
      have C96 := Aside.mk (fun w => rInt_calls s 1048576 hsz (by omega) w)
      have HOK := Aside.mk (intT_ok s 1048576)
      obtain ⟨n, q, e, ht⟩ := trip3 (intT s 1048576)
      rw [ht] at C96 HOK
      have HT := Aside.mk ht
      clear ht
      dsimp only at C96
      by_cases he : e = 0
      · subst he
        have hq : q ≤ s.size := HOK.out.k
        obtain ⟨hst, hvk⟩ := HGO.out k p n q hlt HPP.out (by rw [← HSS.out]; exact HT.out)
        have HST := Aside.mk hst
        have HVK := Aside.mk hvk
        have hn : n ≤ 1048576 := by
          have h2 := HT.out
          unfold intT at h2
          split at h2
          · simp only [Prod.mk.injEq] at h2; omega
          · split at h2
            · simp only [Prod.mk.injEq] at h2; omega
            · simp only [Prod.mk.injEq] at h2
              have : (1048576 : Int).toNat = 1048576 := rfl
              omega
        have HQ := Aside.mk hq
        have HVL := Aside.mk (HVS.out k)
        rw [HVK.out] at HVL
        have HSZW : Aside (w1.heap.size ≤ wr.heap.size) := ⟨HKP.out.size⟩
        clear hst hvk HOK HT
        go_wp2_with fail
        refine (C96.out _).mono ?_
        rintro e' w2 ⟨rfl, rfl⟩
        go_wp2_with (at_builtin; refine wpList_append_own _ rfl _ _ 88 rfl w1.heap.size 3 i0 (.int .i64 0) 1 8 Try.underlying88 hi hz0 hz1 hz2 rfl (by decide) _ _ _ rfl (HO.out.alloc _) ⟨wr.heap.size, 0, none⟩ 1 1 [.int .i64 (n : Nat)] rfl rfl (cell_one_new _ _ _) (by simp [Value.oneCell']) (by unfold maxLen; omega) (by omega) (by have := HSZW.out; simp; omega) ?_)
        intro v' w3 hown' hgrow _
        have HI3 : Aside (w3.ownsRow w1.heap.size 3 1 v' (k + 1) (vs (k + 1)) ∧ Keeps [] w1 w3) :=
          ⟨by rw [HVL.out]; simpa using hown', (HKP.out.alloc _).grown hgrow (fun q hq => .inr (HO.out.lt q hq).1)⟩
        have HP3 : Aside (∃ p, st (k + 1) = (p, 0) ∧ s.extract q s.size = b.extract p b.size) := ⟨p + q, HST.out, by
          have h1 := HQ.out
          rw [HSS.out] at h1 ⊢
          exact ext_ext b p q h1⟩
        clear hown' hgrow HO HKP HSZW C96
        go_wp2
        go_roundw
        case rel => exact ⟨k + 1, _, by omega, by go_num, rfl, HP3, HI3⟩
        case measure => simp [intOf]; omega
      · have b0 : ((e : Int) == 0) = false := by rw [beq_eq_false_iff_ne]; omega
        have b1 : ((e : Int) != 0) = true := by rw [bne_iff_ne]; omega
        have hd := HNO.out k p n q e hlt HPP.out (by rw [← HSS.out]; exact HT.out) he
        have HZ : Aside (Whole wr S 62 (confCells fun _ => 0)) := ⟨HKP.out.whole HZ1.out (by simp)⟩
        rcases HRES.out with ⟨h, _⟩ | ⟨_, rfl, rfl⟩
        · exact absurd h hd
        clear hd he HRES
        go_wp2_with fail
        refine (C96.out _).mono ?_
        rintro e' w2 ⟨rfl, rfl⟩
        go_wp2_with (refine wpList_store_whole rfl 62 _ _ rfl S (confCells fun _ => 0) (confCells fun _ => 0) rfl rfl HZ.out (by kernel_rfl) (by kernel_rfl) (by kernel_rfl) ?_)
        have hrun := run_loadVar_row (P := Try.prog) _ S 62 62 (confCells fun _ => 0) (0, 0) _ (setRow_whole (confCells fun _ => 0) HZ.out) Try.underlying62 rfl (by kernel_rfl)
        refine bodyPost_ret (v := .tuple #[.agg (confCells fun _ => 0), .int .i64 1]) (by simp [results, Try.f48, asAddr, hrun]) rfl ⟨rfl, ?_⟩
        exact (HK1.out.nil_trans HKP.out).trans (setRow_keeps _ S _) (by rw [HS.out]; simp)
    · obtain rfl : k = 9 := by omega
      have HZ : Aside (Whole wr S 62 (confCells fun _ => 0)) := ⟨HKP.out.whole HZ1.out (by simp)⟩
      have HKW : Aside (Keeps [] w wr) := ⟨HK1.out.nil_trans HKP.out⟩
      have hdp := HEND.out p HPP.out
      have hsp : s.size = b.size - p := by rw [HSS.out, ByteArray.size_extract]; omega
      obtain ⟨g, cap, rfl⟩ := ownsRow_succ (k := 8) HO.out
      have HCS : Aside (∀ i, i < 9 → wr.cell? ⟨g, i, none⟩ = some (.int .i64 (natC vv i))) := ⟨fun i h => by
        have := HO.out.cellAt i (by omega)
        rw [HAT.out i h] at this
        exact this⟩
      have hpb := HPB.out
      rcases HRES.out with ⟨hd0, hf, hr⟩ | ⟨hd, rfl, rfl⟩
      · have hs0 : s.size = 0 := by have := hdp.1 hd0; omega
        obtain rfl : s = ⟨#[]⟩ := by
          cases s with
          | mk data => cases data with
            | mk l => cases l with
              | nil => rfl
              | cons x l => simp [ByteArray.size] at hs0
        have HF := Aside.mk hf
        have HRS := Aside.mk hr
        have CO := Aside.mk (refOf_nine ⟨g, 0, none⟩ cap (natC vv) wr (lt_of_cell' (HCS.out 0 (by omega))) (fun i h => by rw [add_zero']; exact HCS.out i h))
        rw [HF.out, HRS.out] at CO
        clear hf hr hd0 hs0 hsp hdp hpb HRES HCS HO
        go_wp2_with fail
        refine CO.out.mono ?_
        rintro e w3 ⟨rfl, k3⟩
        have HZ3 := Aside.mk (k3.whole HZ.out (by simp))
        have HK3 := Aside.mk (HKW.out.nil_trans k3)
        clear k3 HZ HKW CO
        go_wp2_with (refine wpList_store_whole rfl 62 _ _ rfl S (confCells fun _ => 0) (confCells f) rfl rfl HZ3.out (by kernel_rfl) (by kernel_rfl) (by kernel_rfl) ?_)
        have hrun := run_loadVar_row (P := Try.prog) _ S 62 62 (confCells f) (0, 0) _ (setRow_whole (confCells f) HZ3.out) Try.underlying62 rfl (by kernel_rfl)
        refine bodyPost_ret (v := .tuple #[.agg (confCells f), .int .i64 res]) (by simp [results, Try.f48, asAddr, hrun]) rfl ⟨rfl, ?_⟩
        exact HK3.out.trans (setRow_keeps _ S _) (by rw [HS.out]; simp)
      · have hne : s ≠ ⟨#[]⟩ := by
          rintro rfl
          have h0 : (⟨#[]⟩ : ByteArray).size = 0 := rfl
          rw [h0] at hsp
          exact hd (hdp.2 (by omega))
        have c3 : decide (s = ⟨#[]⟩) = false := decide_eq_false hne
        have c4 := toList_ne hne
        have c5 : (!s.toList.isEmpty) = true := by simpa using c4
        clear hsp hdp hpb hd HRES HCS HO
        go_wp2_with (refine wpList_store_whole rfl 62 _ _ rfl S (confCells fun _ => 0) (confCells fun _ => 0) rfl rfl HZ.out (by kernel_rfl) (by kernel_rfl) (by kernel_rfl) ?_)
        have hrun := run_loadVar_row (P := Try.prog) _ S 62 62 (confCells fun _ => 0) (0, 0) _ (setRow_whole (confCells fun _ => 0) HZ.out) Try.underlying62 rfl (by kernel_rfl)
        refine bodyPost_ret (v := .tuple #[.agg (confCells fun _ => 0), .int .i64 1]) (by simp [results, Try.f48, asAddr, hrun]) rfl ⟨rfl, ?_⟩
        exact HKW.out.trans (setRow_keeps _ S _) (by rw [HS.out]; simp)

theorem rcTake_calls (b : ByteArray) (hb : b.size ≤ 1152921504606846976) (w : World) :
    Calls Try.prog 48 #[.string b] w fun e w' => e = .returned (.tuple #[.agg (confCells (takeRes b)), .int .i64 (takeErr b)]) ∧ Keeps [] w w' := by
  refine rcTake_at b hb (rdSt b) (rdV b) (valsOf (rdV b)) rfl rfl (fun _ => rfl) (fun i h => valsOf_at _ 9 i h) (rdDone b (rdSt b 9)) ?_ ?_ ?_ ?_ _ _ ?_ w
  · intro k p hp
    have := (rdSt_in b k).1
    rw [hp] at this
    exact this
  · intro k p n q _ hp ht
    have h1 := rdSt_step b k
    rw [hp, rdInt_good ht] at h1
    simp only [Prod.mk.injEq] at h1
    exact ⟨h1.2.symm, h1.1.symm⟩
  · intro k p n q e hk hp ht he
    have h1 := rdSt_step b k
    rw [hp, rdInt_bad ht he] at h1
    simp only [Prod.mk.injEq] at h1
    have h2 : (rdSt b (k + 1)).2 ≠ 0 := by rw [← h1.2]; exact he
    have h3 := rdSt_err b (k + 1) h2 (8 - k)
    rw [show k + 1 + (8 - k) = 9 by omega] at h3
    exact done_err h3
  · intro p hp
    have h1 := (rdSt_in b 9).1
    rw [hp] at h1 ⊢
    dsimp only at h1
    unfold rdDone
    rw [if_neg (by simp)]
    dsimp only
    split <;> omega
  · unfold takeRes takeErr
    by_cases h : rdDone b (rdSt b 9) = 0
    · rw [if_pos h, if_pos h]
      exact .inl ⟨h, rfl, rfl⟩
    · rw [if_neg h, if_neg h]
      exact .inr ⟨h, rfl, rfl⟩
end Go.Proofs.Ythcjcgagbpfkpaa

/- Which configuration bytes are those of: conf.Take and the document's Take. -/
import Derived.Test.YthcjcgagbpfkpaaRCPut
import Derived.Test.YthcjcgagbpfkpaaReadAt
namespace Go.Proofs.Ythcjcgagbpfkpaa
set_option linter.unusedVariables false
set_option linter.unusedSimpArgs false
open Go.RowKit

/-- The reader behind k numbers; the number that is taken then. -/
def rdSt (b : ByteArray) : Nat → Nat × Nat
  | 0 => (0, 0)
  | k + 1 => (rdInt 1048576 b (rdSt b k)).2
def rdV (b : ByteArray) (k : Nat) : Nat := (rdInt 1048576 b (rdSt b k)).1
theorem rdSt_step (b : ByteArray) (k : Nat) : rdInt 1048576 b (rdSt b k) = (rdV b k, rdSt b (k + 1)) := rfl
theorem rdSt_in (b : ByteArray) : ∀ k, RdIn b (rdSt b k)
  | 0 => RdIn.zero b
  | k + 1 => (rdInt_in' (rdSt_step b k) (rdSt_in b k)).1
theorem rdV_le (b : ByteArray) (k : Nat) : rdV b k ≤ 1048576 := (rdInt_in' (rdSt_step b k) (rdSt_in b k)).2
theorem rdSt_err (b : ByteArray) (j : Nat) (h : (rdSt b j).2 ≠ 0) : ∀ d, (rdSt b (j + d)).2 ≠ 0
  | 0 => h
  | d + 1 => by
    have ih := rdSt_err b j h d
    show (rdInt 1048576 b (rdSt b (j + d))).2.2 ≠ 0
    obtain ⟨p, e, he⟩ := pair_ex (rdSt b (j + d))
    rw [he] at ih ⊢
    rw [rdInt_err ih]
    exact ih
theorem done_err {b : ByteArray} {st : Nat × Nat} (h : st.2 ≠ 0) : rdDone b st ≠ 0 := by
  unfold rdDone
  rw [if_pos h]
  exact h

/-- What is taken of bytes. -/
def takeRes (b : ByteArray) : Nat → Int := if rdDone b (rdSt b 9) = 0 then ofRes (natC (rdV b)) else fun _ => 0
def takeErr (b : ByteArray) : Int := if rdDone b (rdSt b 9) = 0 then checkRes (natC (rdV b)) else 1

/-- The numbers that have been taken. -/
def valsOf (m : Nat → Nat) : Nat → List Value
  | 0 => []
  | k + 1 => valsOf m k ++ [.int .i64 (m k : Nat)]
theorem valsOf_len (m : Nat → Nat) : ∀ k, (valsOf m k).length = k
  | 0 => rfl
  | k + 1 => by simp [valsOf, valsOf_len m k]
theorem valsOf_at (m : Nat → Nat) : ∀ (k i : Nat), i < k → (valsOf m k)[i]? = some (.int .i64 (m i : Nat))
  | 0, i, h => by omega
  | k + 1, i, h => by
    by_cases hik : i = k
    · subst hik
      rw [valsOf, List.getElem?_append_right (by rw [valsOf_len]; exact Nat.le_refl _), valsOf_len, Nat.sub_self]
      rfl
    · rw [valsOf, List.getElem?_append_left (by rw [valsOf_len]; omega)]
      exact valsOf_at m k i (by omega)

theorem own_base_i {w : World} {base : Nat} {g n cap : Nat} {xs : List Value} (h : w.ownsRow base 3 1 (.slice (some ⟨g, 0, none⟩) n cap) n xs) : base ≤ g := by
  rcases h.2 with ⟨h, _⟩ | ⟨g2, cap2, cur2, h, hb, _⟩
  · cases h
  · cases h; exact hb

theorem own_not' {w : World} {B g : Nat} {e : TypeId} {sz : Nat} (hb : g < B) {v : Value} {n : Nat} {xs : List Value} (h : w.ownsRow B e sz v n xs) : v.ownBlock ≠ some g := by
  rcases h.2 with ⟨rfl, _⟩ | ⟨g', cap, cur, rfl, hg, _⟩
  · simp [Value.ownBlock]
  · intro e
    have : g' = g := by simpa [Value.ownBlock] using e
    omega

set_option maxRecDepth 100000 in
set_option maxHeartbeats 8000000 in
theorem cTake_at (b : ByteArray) (st : Nat → Nat × Nat) (vv : Nat → Nat) (vs : Nat → List Value) (h0 : st 0 = (0, 0)) (hv0 : vs 0 = []) (hvs : ∀ k, vs (k + 1) = vs k ++ [.int .i64 (vv k : Nat)]) (hat : ∀ i, i < 9 → (vs 9)[i]? = some (.int .i64 (vv i : Nat)))
    (d : Nat)
    (hci : ∀ (k R : Nat) (w : World), Rd w R b (st k) → Calls Try.prog 74 #[.pointer (some ⟨R, 0, none⟩), .int .i64 1048576] w fun e' w' => e' = .returned (.int .i64 (vv k : Nat)) ∧ Rd w' R b (st (k + 1)) ∧ Keeps [R] w w')
    (hcd : ∀ (R : Nat) (w : World), Rd w R b (st 9) → Calls Try.prog 72 #[.pointer (some ⟨R, 0, none⟩)] w fun e' w' => e' = .returned (.int .i64 (d : Nat)) ∧ Keeps [] w w')
    (hvl : ∀ k, vv k ≤ 1048576) (f : Nat → Int) (res : Int)
    (hres : (d = 0 ∧ ofRes (natC vv) = f ∧ checkRes (natC vv) = res) ∨ (d ≠ 0 ∧ (fun _ => 0) = f ∧ 1 = res)) (w : World) :
    Calls Try.prog 47 #[.string b] w fun e w' => e = .returned (.tuple #[.agg (confCells f), .int .i64 res]) ∧ Keeps [] w w' := by
  have HRES := Aside.mk hres
  clear hres
  obtain ⟨i0, hi, hz0, hz1, hz2⟩ := info_parts info3c
  have CI := Aside.mk hci
  have CD := Aside.mk hcd
  have HV := Aside.mk hvl
  have H0 := Aside.mk h0
  have HV0 := Aside.mk hv0
  have HVS := Aside.mk hvs
  have HAT := Aside.mk hat
  clear hci hcd hvl h0 hv0 hvs hat
  go_enter Try.func47, Try.ntmps47
  go_wp2_with fail
  refine (read_calls b _).mono ?_
  rintro e w1 ⟨rfl, hr1, hk1⟩
  obtain ⟨S, hS⟩ : ∃ S, S = w.heap.size := ⟨_, rfl⟩
  have HZ1 : Aside (Whole w1 S 62 (confCells fun _ => 0)) := ⟨by rw [hS]; exact hk1.whole (Whole.new w 62 (confCells fun _ => 0)) (by simp)⟩
  have HR1 : Aside (Rd w1 (S + 1) b (0, 0)) := ⟨by have := hr1; rw [World.size_alloc, ← hS] at this; exact this⟩
  have HK1 : Aside (Keeps [] w w1) := ⟨((Keeps.refl [] w).alloc _).nil_trans hk1⟩
  have HSZ : Aside (S + 1 < w1.heap.size) := ⟨HR1.out.lt⟩
  have HS := Aside.mk hS
  simp only [World.size_alloc, ← hS]
  clear hr1 hk1 hS
  go_wp2_with fail
  go_loopw [5, 8] (fun v5 v8 wr => ∃ k : Nat, k ≤ 9 ∧ v8 = .int .i64 k ∧ Aside (wr.ownsRow w1.heap.size 3 1 v5 k (vs k) ∧ Rd wr (S + 1) b (st k) ∧ Keeps [S + 1] w1 wr)) (fun _ v8 _ => 9 - (intOf v8).toNat)
  case atStart => exact ⟨0, by omega, rfl, ⟨by rw [HV0.out]; exact World.ownsRow_nil _ _ _ _, by rw [H0.out]; exact HR1.out, Keeps.refl _ _⟩⟩
  case round =>
    obtain ⟨k, hk, rfl, HI⟩ := hrel
    obtain ⟨hown, hrd, hkp⟩ := HI.out
    clear HI
    have HO := Aside.mk hown
    have HRD := Aside.mk hrd
    have HKP := Aside.mk hkp
    clear hown hrd hkp
    by_cases hlt : k < 9
    · clear HZ1 HR1
      have hki : (k : Int) < 9 := by omega
      go_wp2_with fail
      refine (CI.out k (S + 1) _ HRD.out).mono ?_
      rintro e w2 ⟨rfl, r2, k2⟩
      have HO2 := Aside.mk (own_keeps HO.out k2 (by have := HSZ.out; simpa using this))
      have HR2 := Aside.mk r2
      have HK2 := Aside.mk (HKP.out.trans k2 (fun y hy => .inl hy))
      have HSZ2 : Aside (w1.heap.size ≤ w2.heap.size) := ⟨HK2.out.size⟩
      have hv := HV.out k
      have HVL := Aside.mk (HVS.out k)
      clear r2 k2 HO HRD HKP
      generalize vv k = u at hv HVL ⊢
      go_wp2_with (at_builtin; refine wpList_append_own _ rfl _ _ 88 rfl w1.heap.size 3 i0 (.int .i64 0) 1 8 Try.underlying88 hi hz0 hz1 hz2 rfl (by decide) _ _ _ rfl (HO2.out.alloc _) ⟨w2.heap.size, 0, none⟩ 1 1 [.int .i64 (u : Nat)] rfl rfl (cell_one_new _ _ _) (by simp [Value.oneCell']) (by unfold maxLen; omega) (by omega) (by have := HSZ2.out; simp; omega) ?_)
      intro v' w3 hown' hgrow _
      have HI3 : Aside (w3.ownsRow w1.heap.size 3 1 v' (k + 1) (vs (k + 1)) ∧ Rd w3 (S + 1) b (st (k + 1)) ∧ Keeps [S + 1] w1 w3) := by
        have hnb := own_not' HSZ.out HO2.out
        have hr3 : Rd w3 (S + 1) b (st (k + 1)) := (hgrow.block (S + 1) (by have := HR2.out.lt; simp; omega) (fun e => hnb e.symm)).trans (Whole.alloc HR2.out _)
        exact ⟨by rw [HVL.out]; simpa using hown', hr3, (HK2.out.alloc _).grown hgrow (fun q hq => .inr (HO2.out.lt q hq).1)⟩
      clear hown' hgrow HO2 HR2 HK2 HSZ2
      go_wp2
      go_roundw
      case rel => exact ⟨k + 1, by omega, by go_num, HI3⟩
      case measure => simp [intOf]; omega
    · obtain rfl : k = 9 := by omega
      have HZ : Aside (Whole wr S 62 (confCells fun _ => 0)) := ⟨HKP.out.whole HZ1.out (by simp)⟩
      have HKW : Aside (Keeps [] w wr) := ⟨HK1.out.trans HKP.out (by have := HS.out; intro y hy; simp at hy; omega)⟩
      obtain ⟨g, cap, rfl⟩ := ownsRow_succ (k := 8) HO.out
      have HCS : Aside (∀ i, i < 9 → wr.cell? ⟨g, i, none⟩ = some (.int .i64 (natC vv i))) := ⟨fun i h => by
        have := HO.out.cellAt i (by omega)
        rw [HAT.out i h] at this
        exact this⟩
      have CDD := Aside.mk (CD.out (S + 1) wr HRD.out)
      clear HZ1 HR1 HK1 CD HO HRD HKP
      rcases HRES.out with ⟨rfl, hf, hr⟩ | ⟨hd, rfl, rfl⟩
      · clear HRES
        have HF := Aside.mk hf
        have HRS := Aside.mk hr
        clear hf hr
        go_wp2_with fail
        refine CDD.out.mono ?_
        rintro e w2 ⟨rfl, k2⟩
        have HZ2 := Aside.mk (k2.whole HZ.out (by simp))
        have HK2 := Aside.mk (HKW.out.nil_trans k2)
        have CO := Aside.mk (of_nine ⟨g, 0, none⟩ cap (natC vv) w2 (lt_of_cell' (k2.cell (HCS.out 0 (by omega)) (by simp))) (fun i h => by rw [add_zero']; exact k2.cell (HCS.out i h) (by simp)))
        rw [HF.out, HRS.out] at CO
        clear k2 HZ HKW HCS CDD
        go_wp2_with fail
        refine CO.out.mono ?_
        rintro e w3 ⟨rfl, k3⟩
        have HZ3 := Aside.mk (k3.whole HZ2.out (by simp))
        have HK3 := Aside.mk (HK2.out.nil_trans k3)
        clear k3 HZ2 HK2 CO
        go_wp2_with (refine wpList_store_whole rfl 62 _ _ rfl S (confCells fun _ => 0) (confCells f) rfl rfl HZ3.out (by kernel_rfl) (by kernel_rfl) (by kernel_rfl) ?_)
        have hrun := run_loadVar_row (P := Try.prog) _ S 62 62 (confCells f) (0, 0) _ (setRow_whole (confCells f) HZ3.out) Try.underlying62 rfl (by kernel_rfl)
        refine bodyPost_ret (v := .tuple #[.agg (confCells f), .int .i64 res]) (by simp [results, Try.f47, asAddr, hrun]) rfl ⟨rfl, ?_⟩
        exact HK3.out.trans (setRow_keeps _ S _) (by rw [HS.out]; simp)
      · clear HRES
        have b0 : ((d : Int) == 0) = false := by rw [beq_eq_false_iff_ne]; omega
        have b1 : ((d : Int) != 0) = true := by rw [bne_iff_ne]; omega
        go_wp2_with fail
        refine CDD.out.mono ?_
        rintro e w2 ⟨rfl, k2⟩
        have HZ2 := Aside.mk (k2.whole HZ.out (by simp))
        have HK2 := Aside.mk (HKW.out.nil_trans k2)
        clear k2 HZ HKW HCS CDD
        go_wp2_with (refine wpList_store_whole rfl 62 _ _ rfl S (confCells fun _ => 0) (confCells fun _ => 0) rfl rfl HZ2.out (by kernel_rfl) (by kernel_rfl) (by kernel_rfl) ?_)
        have hrun := run_loadVar_row (P := Try.prog) _ S 62 62 (confCells fun _ => 0) (0, 0) _ (setRow_whole (confCells fun _ => 0) HZ2.out) Try.underlying62 rfl (by kernel_rfl)
        refine bodyPost_ret (v := .tuple #[.agg (confCells fun _ => 0), .int .i64 1]) (by simp [results, Try.f47, asAddr, hrun]) rfl ⟨rfl, ?_⟩
        exact HK2.out.trans (setRow_keeps _ S _) (by rw [HS.out]; simp)

theorem cTake_calls (b : ByteArray) (hb : b.size ≤ 1152921504606846976) (w : World) :
    Calls Try.prog 47 #[.string b] w fun e w' => e = .returned (.tuple #[.agg (confCells (takeRes b)), .int .i64 (takeErr b)]) ∧ Keeps [] w w' := by
  refine cTake_at b (rdSt b) (rdV b) (valsOf (rdV b)) rfl rfl (fun _ => rfl) (fun i h => valsOf_at _ 9 i h) (rdDone b (rdSt b 9)) (fun k R w h => int_at hb (rdSt_in b k) R w h (by omega) (rdSt_step b k))
    (fun R w h => done_at hb (rdSt_in b 9) R w h rfl) (rdV_le b) _ _ ?_ w
  unfold takeRes takeErr
  by_cases h : rdDone b (rdSt b 9) = 0
  · rw [if_pos h, if_pos h]
    exact .inl ⟨h, rfl, rfl⟩
  · rw [if_neg h, if_neg h]
    exact .inr ⟨h, rfl, rfl⟩
end Go.Proofs.Ythcjcgagbpfkpaa

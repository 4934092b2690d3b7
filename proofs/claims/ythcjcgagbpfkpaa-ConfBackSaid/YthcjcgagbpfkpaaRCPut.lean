/- The document's Put; chapter 37's example. -/
import Derived.Test.YthcjcgagbpfkpaaCPut
namespace Go.Proofs.Ythcjcgagbpfkpaa
set_option linter.unusedVariables false
set_option linter.unusedSimpArgs false
open Go.RowKit

set_option maxRecDepth 100000 in
set_option maxHeartbeats 4000000 in
theorem rcPut_bad (c : Nat → Int) (hbad : checkRes c = 1) (w : World) :
    Calls Try.prog 46 #[.agg (confCells c)] w fun e w' => e = .returned (.tuple #[.string ⟨#[]⟩, .int .i64 1]) ∧ Keeps [] w w' := by
  have CK := Aside.mk (fun w => refCheck_calls c w)
  rw [hbad] at CK
  clear hbad
  go_enter Try.func46, Try.ntmps46
  go_wp2_with fail
  refine (CK.out _).mono ?_
  rintro e w1 ⟨rfl, k1⟩
  have HK := Aside.mk (((Keeps.refl [] w).alloc (.cells (confCells c) 62)).nil_trans k1)
  clear k1
  go_wp2_with fail
  go_ret2
  exact ⟨rfl, HK.out⟩

set_option maxRecDepth 100000 in
set_option maxHeartbeats 8000000 in
theorem rcPut_good (m : Nat → Nat) (hm : ∀ i, i < 9 → m i ≤ 1048576) (hgood : checkRes (natC m) = 0) (w : World) :
    Calls Try.prog 46 #[.agg (confCells (natC m))] w fun e w' => e = .returned (.tuple #[.string (txt (cput m 9)), .int .i64 0]) ∧ Keeps [] w w' := by
  have CK := Aside.mk (fun w => refCheck_calls (natC m) w)
  rw [hgood] at CK
  have HM := Aside.mk hm
  clear hgood hm
  have HCL := Aside.mk (cput_len m HM.out)
  have HS : Aside (∀ k, txt (cput m k) ++ txt (vput (m k)) = txt (cput m (k + 1))) := ⟨fun k => txt_append _ _⟩
  go_enter Try.func46, Try.ntmps46
  go_wp2_with fail
  refine (CK.out _).mono ?_
  rintro e w1 ⟨rfl, k1⟩
  have HK := Aside.mk (((Keeps.refl [] w).alloc (.cells (confCells (natC m)) 62)).nil_trans k1)
  have hc1 := k1.whole (Whole.new w 62 (confCells (natC m))) (by simp)
  have HC1 := Aside.mk hc1
  clear k1 hc1 CK
  go_wp2_with (first | (refine wpList_load_row rfl 62 _ rfl w.heap.size rfl 62 _ (0, 0) _ HC1.out Try.underlying62 rfl (by kernel_rfl) ?_) | fail)
  refine (refList_calls (natC m) _).mono ?_
  rintro e w2 ⟨g, cap, rfl, hg, hcs, k2⟩
  have HCS := Aside.mk hcs
  have HKW : Aside (Keeps [] w w2) := ⟨HK.out.nil_trans k2⟩
  clear hg hcs k2 HC1 HK
  go_wp2_with fail
  go_loopw [5, 6] (fun v5 v6 wr => ∃ k : Nat, k ≤ 9 ∧ v6 = .int .i64 k ∧ v5 = .string (txt (cput m k)) ∧ Aside (Keeps [] w2 wr)) (fun _ v6 _ => 9 - (intOf v6).toNat)
  case atStart => exact ⟨0, by omega, rfl, rfl, ⟨Keeps.refl _ _⟩⟩
  case round =>
    obtain ⟨k, hk, rfl, rfl, HW⟩ := hrel
    by_cases hlt : k < 9
    · have d0 := HW.out.cell (HCS.out k hlt) (by simp)
      have hmk := HM.out k hlt
      have hlk := HCL.out k (by omega)
      have HSK := Aside.mk (HS.out k)
      simp only [natC] at d0
      generalize m k = u at d0 hmk HSK
      have HV := Aside.mk (vput_len10 (n := u) (by omega))
      have HMK := Aside.mk hmk
      have hsum : (txt (cput m k)).size + (txt (vput u)).size ≤ 9223372036854775807 := by rw [txt_size, txt_size]; have := HV.out; omega
      have hki : (k : Int) < 9 := by omega
      clear hlk
      go_wp2_with fail
      refine (rPut10 u (by have := HMK.out; omega) _).mono ?_
      rintro e w4 ⟨rfl, k4⟩
      have HW4 := Aside.mk (HW.out.nil_trans k4)
      clear k4
      go_wp2
      go_roundw
      case rel => exact ⟨k + 1, by omega, by go_num, by rw [HSK.out], HW4⟩
      case measure => simp [intOf]; omega
    · obtain rfl : k = 9 := by omega
      go_wp2_with fail
      go_ret2
      exact ⟨rfl, HKW.out.nil_trans HW.out⟩
end Go.Proofs.Ythcjcgagbpfkpaa

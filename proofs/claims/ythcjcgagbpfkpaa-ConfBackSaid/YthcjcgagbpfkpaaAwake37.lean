/- Chapter 37's example. -/
import Derived.Test.YthcjcgagbpfkpaaRCPut
namespace Go.Proofs.Ythcjcgagbpfkpaa
set_option linter.unusedVariables false
set_option linter.unusedSimpArgs false
open Go.RowKit

def admM : Nat → Nat := fun k => if k = 0 then 1040 else if k = 1 ∨ k = 2 then 1048576 else if k = 5 then 32 else if k = 6 then 2 else 0
theorem adm_nat : confCells (natC admM) = confCells admConf := by simp [confCells, natC, admM, admConf]
theorem adm_put : txt (cput admM 9) = ⟨#[144, 8, 128, 128, 64, 128, 128, 64, 0, 0, 32, 2, 0, 0]⟩ := by
  have e1 : vput 1040 = [144, 8] := by rw [vput_ge (by decide), vput_lt (by decide)]; rfl
  have e2 : vput 1048576 = [128, 128, 64] := by rw [vput_ge (by decide), vput_ge (by decide), vput_lt (by decide)]; rfl
  have e3 : vput 32 = [32] := by rw [vput_lt (by decide)]; rfl
  have e4 : vput 2 = [2] := by rw [vput_lt (by decide)]; rfl
  have e5 : vput 0 = [0] := by rw [vput_lt (by decide)]; rfl
  simp [cput, admM, e1, e2, e3, e4, e5, txt]
theorem adm_ok : checkRes (natC admM) = 0 := by
  refine confOk_yes (fun i _ => ?_)
  obtain ⟨k, hk⟩ := i
  obtain rfl | rfl | rfl | rfl | rfl | rfl | rfl | rfl | rfl : k = 0 ∨ k = 1 ∨ k = 2 ∨ k = 3 ∨ k = 4 ∨ k = 5 ∨ k = 6 ∨ k = 7 ∨ k = 8 := by omega
  all_goals rfl
theorem adm_most (i : Nat) (hi : i < 9) : admM i ≤ 1048576 := by unfold admM; split <;> (try split) <;> (try split) <;> (try split) <;> omega

set_option maxRecDepth 100000 in
set_option maxHeartbeats 4000000 in
theorem awake37 (w : World) : Calls Try.prog 49 #[] w fun e w' => e = .returned (.bool true) ∧ Keeps [] w w' := by
  have CP := Aside.mk (fun w => cPut_good admM adm_most adm_ok w)
  rw [adm_put, adm_nat] at CP
  go_enter Try.func49, Try.ntmps49
  go_wp2_with fail
  refine (admin_calls _).mono ?_
  rintro e w1 ⟨rfl, k1⟩
  have HK1 := Aside.mk k1
  clear k1
  go_wp2_with fail
  refine (CP.out _).mono ?_
  rintro e w2 ⟨rfl, k2⟩
  have HK2 := Aside.mk (HK1.out.nil_trans k2)
  clear k2 CP HK1
  go_wp2_with fail
  refine (admin_calls _).mono ?_
  rintro e w3 ⟨rfl, k3⟩
  have HK3 := Aside.mk (HK2.out.nil_trans k3)
  clear k3 HK2
  go_wp2_with fail
  refine (refAdmin_calls _).mono ?_
  rintro e w4 ⟨rfl, k4⟩
  have HK4 := Aside.mk (HK3.out.nil_trans k4)
  clear k4 HK3
  go_wp2_with fail
  go_ret
  exact ⟨rfl, HK4.out⟩
end Go.Proofs.Ythcjcgagbpfkpaa

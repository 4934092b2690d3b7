/- A configuration's bytes: conf.Put and the document's Put. -/
import Derived.Test.YthcjcgagbpfkpaaCBuild
import Derived.Test.YthcjcgagbpfkpaaRefList
import Derived.Test.YthcjcgagbpfkpaaCallPut
namespace Go.Proofs.Ythcjcgagbpfkpaa
set_option linter.unusedVariables false
set_option linter.unusedSimpArgs false
open Go.RowKit

/-- The bytes of the first k numbers. -/
def cput (m : Nat → Nat) : Nat → List UInt8
  | 0 => []
  | k + 1 => cput m k ++ vput (m k)
theorem cput_len (m : Nat → Nat) (hm : ∀ i, i < 9 → m i ≤ 1048576) : ∀ k, k ≤ 9 → (cput m k).length ≤ 10 * k
  | 0, _ => by simp [cput]
  | k + 1, h => by
    have := cput_len m hm k (by omega)
    have h2 := vput_len10 (n := m k) (by have := hm k (by omega); omega)
    simp only [cput, List.length_append]
    omega
theorem vput_ne' (n : Nat) : vput n ≠ [] := by
  rw [vput]
  split <;> simp
theorem cput_ne (m : Nat → Nat) (k : Nat) : cput m (k + 1) ≠ [] := by simp [cput, vput_ne']

/-- A configuration of numbers without a sign. -/
def natC (m : Nat → Nat) : Nat → Int := fun i => (m i : Nat)

theorem own_keeps {w w' : World} {base : Nat} {e : TypeId} {size n : Nat} {v : Value} {xs : List Value} {K : List Nat} (h : w.ownsRow base e size v n xs) (k : Keeps K w w') (hK : ∀ y ∈ K, y < base) : w'.ownsRow base e size v n xs := by
  refine ⟨h.1, ?_⟩
  rcases h.2 with hn | ⟨g, cap, cur, hv, hb, hg, rest⟩
  · exact .inl hn
  · exact .inr ⟨g, cap, cur, hv, hb, k.whole (g := g) hg (fun hm => by have := hK g hm; omega), rest⟩

set_option maxRecDepth 100000 in
set_option maxHeartbeats 4000000 in
theorem cPut_bad (c : Nat → Int) (hbad : checkRes c = 1) (w : World) :
    Calls Try.prog 45 #[.agg (confCells c)] w fun e w' => e = .returned (.tuple #[.string ⟨#[]⟩, .int .i64 1]) ∧ Keeps [] w w' := by
  have CK := Aside.mk (fun w => check_calls c w)
  rw [hbad] at CK
  clear hbad
  go_enter Try.func45, Try.ntmps45
  go_wp2_with fail
  refine (CK.out _).mono ?_
  rintro e w1 ⟨rfl, k1⟩
  have HK := Aside.mk (((Keeps.refl [] w).alloc (.cells (confCells c) 62)).nil_trans k1)
  clear k1
  go_wp2_with fail
  go_ret2
  exact ⟨rfl, HK.out⟩

set_option maxRecDepth 100000 in
set_option maxHeartbeats 8000000 in
theorem cPut_good (m : Nat → Nat) (hm : ∀ i, i < 9 → m i ≤ 1048576) (hgood : checkRes (natC m) = 0) (w : World) :
    Calls Try.prog 45 #[.agg (confCells (natC m))] w fun e w' => e = .returned (.tuple #[.string (txt (cput m 9)), .int .i64 0]) ∧ Keeps [] w w' := by
  have CK := Aside.mk (fun w => check_calls (natC m) w)
  rw [hgood] at CK
  have HM := Aside.mk hm
  clear hgood hm
  have HCL := Aside.mk (cput_len m HM.out)
  have HS : Aside (∀ k, cput m (k + 1) = cput m k ++ vput (m k)) := ⟨fun k => rfl⟩
  go_enter Try.func45, Try.ntmps45
  go_wp2_with fail
  refine (CK.out _).mono ?_
  rintro e w1 ⟨rfl, k1⟩
  have HK := Aside.mk (((Keeps.refl [] w).alloc (.cells (confCells (natC m)) 62)).nil_trans k1)
  have hc1 := k1.whole (Whole.new w 62 (confCells (natC m))) (by simp)
  have HC1 := Aside.mk hc1
  clear k1 hc1 CK
  go_wp2_with (first | (refine wpList_load_row rfl 62 _ rfl w.heap.size rfl 62 _ (0, 0) _ (HC1.out.alloc _) Try.underlying62 rfl (by kernel_rfl) ?_) | fail)
  refine (list_calls (natC m) _).mono ?_
  rintro e w2 ⟨g, cap, rfl, hg, hcs, k2⟩
  obtain ⟨b, hb⟩ : ∃ b, b = w1.heap.size := ⟨_, rfl⟩
  have HBW : Aside (Whole w2 b 153 #[.pointer none, .slice none 0 0]) := ⟨by rw [hb]; exact k2.whole (Whole.new w1 153 _) (by simp)⟩
  have HG : Aside (g ≠ b) := ⟨by have := hg; simp at this; omega⟩
  have HCS := Aside.mk hcs
  have HBL : Aside (b < w2.heap.size) := ⟨HBW.out.lt⟩
  have HBG : Aside (w.heap.size ≤ b) := ⟨by rw [hb]; exact HK.out.size⟩
  have HKW : Aside (Keeps [] w w2) := ⟨(HK.out.alloc _).nil_trans k2⟩
  simp only [← hb]
  clear hg hcs k2 hb HC1 HK
  go_wp2_with fail
  go_loopw [16] (fun v16 wr => ∃ k : Nat, k ≤ 9 ∧ v16 = .int .i64 k ∧ Aside (∃ p v, (p = .pointer none ∨ p = .pointer (some ⟨b, 0, none⟩)) ∧ Whole wr b 153 #[p, v] ∧ wr.ownsRow w2.heap.size 5 1 v (cput m k).length (Lib.byteCells (cput m k)) ∧ Keeps [b] w2 wr)) (fun v16 _ => 9 - (intOf v16).toNat)
  case atStart => exact ⟨0, by omega, rfl, ⟨_, _, .inl rfl, HBW.out, World.ownsRow_nil _ _ _ _, Keeps.refl _ _⟩⟩
  case round =>
    obtain ⟨k, hk, rfl, HI⟩ := hrel
    obtain ⟨p, v, hp, hW, hown, hk2⟩ := HI.out
    clear HI
    have HP := Aside.mk hp
    have HW := Aside.mk hW
    have HO := Aside.mk hown
    have HK2 := Aside.mk hk2
    by_cases hlt : k < 9
    · have d0 := hk2.cell (HCS.out k hlt) (by have := HG.out; simpa using this)
      clear hp hW hown hk2
      have hmk := HM.out k hlt
      have hlk := HCL.out k (by omega)
      have HSK := Aside.mk (HS.out k)
      simp only [natC] at d0
      generalize m k = u at d0 hmk HSK
      have HV := Aside.mk (vput_len10 (n := u) (by omega))
      have HLK := Aside.mk hlk
      have HMK := Aside.mk hmk
      have hki : (k : Int) < 9 := by omega
      clear hlk
      go_wp2_with fail
      refine (vPut_calls u (by have := HMK.out; omega) _).mono ?_
      rintro e w4 ⟨rfl, k4⟩
      have CW := Aside.mk (writeString_calls b p v HP.out (Lib.byteCells (cput m k)) (txt (vput u)) w2 w4 HBL.out (k4.whole HW.out (by simp)) (by rw [Lib.byteCells_length]; exact own_keeps HO.out k4 (by simp)) (HK2.out.nil_trans k4)
        (by rw [Lib.byteCells_length, txt_size]; have := HLK.out; have := HV.out; omega))
      clear k4
      go_wp2_with fail
      refine CW.out.mono ?_
      rintro e w5 ⟨v', rfl, h5, o5, k5⟩
      have e5 : Lib.byteCells (cput m k) ++ Lib.strCells (txt (vput u)) = Lib.byteCells (cput m (k + 1)) := by
        rw [Lib.strCells_eq, txt_toList, HSK.out, Lib.byteCells_append]
      rw [e5, Lib.byteCells_length] at o5
      have HI5 : Aside (∃ p v, (p = .pointer none ∨ p = .pointer (some ⟨b, 0, none⟩)) ∧ Whole w5 b 153 #[p, v] ∧ w5.ownsRow w2.heap.size 5 1 v (cput m (k + 1)).length (Lib.byteCells (cput m (k + 1))) ∧ Keeps [b] w2 w5) := ⟨_, v', .inr rfl, h5, o5, k5⟩
      clear h5 o5 k5 e5 CW
      go_wp2
      go_roundw
      case rel => exact ⟨k + 1, by omega, by go_num, HI5⟩
      case measure => simp [intOf]; omega
    · obtain rfl : k = 9 := by omega
      clear hp hW hown hk2
      have CB := Aside.mk (bString_calls b p v (cput m 9) (cput_ne m 8) w2 wr HW.out HO.out HK2.out)
      go_wp2_with fail
      refine CB.out.mono ?_
      rintro e w5 ⟨rfl, k5⟩
      have HK5 : Aside (Keeps [] w w5) := ⟨HKW.out.trans k5 (by have := HBG.out; simpa using this)⟩
      clear k5 CB
      go_wp2_with fail
      go_ret2
      exact ⟨rfl, HK5.out⟩
end Go.Proofs.Ythcjcgagbpfkpaa

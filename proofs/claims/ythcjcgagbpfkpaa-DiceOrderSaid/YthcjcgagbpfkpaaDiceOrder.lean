/- DiceOrder: what is put in is taken in that order, up to 64. -/
import Derived.Test.YthcjcgagbpfkpaaDice
import Derived.Test.YthcjcgagbpfkpaaDiceMixes
import Derived.Test.YthcjcgagbpfkpaaNums
namespace Go.Proofs.Ythcjcgagbpfkpaa
set_option linter.unusedVariables false
set_option linter.unusedSimpArgs false
open Go.RowKit

theorem take_snoc (z : List Nat) (k : Nat) (hk : k < z.length) : z.take k ++ [nth z k] = z.take (k + 1) := by
  rw [List.take_add_one]
  simp [nth, List.getD, List.getElem?_eq_getElem hk]
theorem drop_get (q : List Nat) (k : Nat) (hk : k < q.length) : q.drop k = nth q k :: q.drop (k + 1) := by
  rw [List.drop_eq_getElem_cons hk]
  simp [nth, List.getD, List.getElem?_eq_getElem hk]

set_option maxRecDepth 8000 in
set_option maxHeartbeats 4000000 in
theorem diceOrder_walk (a : Option Addr) (len cap : Nat) (z : List Nat) (hz : z.length = len) (w : World) (hin : NumsIn w a z) :
    Calls Try.prog 6 #[.slice a len cap] w fun e w' => e = .returned (.bool true) ∧ Keeps [] w w' := by
  have HN := Aside.mk hin
  have HZ := Aside.mk hz
  clear hin hz
  go_enter Try.func6, Try.ntmps6
  go_wp2_with fail
  refine (dTake_nil _).mono ?_
  rintro e' w1 ⟨rfl, rfl⟩
  go_wp2_with fail
  refine (dPut_nil 1 _).mono ?_
  rintro e' w1 ⟨rfl, rfl⟩
  go_wp2_with fail
  refine (dLeft_nil _).mono ?_
  rintro e' w1 ⟨rfl, rfl⟩
  go_wp2_with fail
  go_loopw [7] (fun v7 wr => ∃ k : Nat, k ≤ len ∧ k ≤ 1000 ∧ v7 = .int .i64 k ∧ Aside (Dice wr w.heap.size ((z.take 64).take k)) ∧ Keeps [] w wr) (fun v7 _ => 1000 - (intOf v7).toNat)
  case atStart => exact ⟨0, by omega, by omega, rfl, ⟨Dice.new w⟩, (Keeps.refl [] w).alloc _⟩
  case round =>
    obtain ⟨k, hk, hk2, rfl, hd, hw⟩ := hrel
    by_cases hgo : k < len ∧ k < 1000
    · obtain ⟨hlt, hlt2⟩ := hgo
      · obtain ⟨x, rfl, hc, hb⟩ := HN.out.get hw (i := k) (by rw [HZ.out]; exact hlt)
        have hx := HN.out.1
        by_cases h64 : k < 64
        · have hq : Aside (((z.take 64).take k).length < 64 ∧ (z.take 64).take k ++ [nth z k] = (z.take 64).take (k + 1)) := by
            have := HZ.out
            refine ⟨by simp; omega, ?_⟩
            rw [List.take_take, List.take_take, show min k 64 = k by omega, show min (k + 1) 64 = k + 1 by omega]
            exact take_snoc z k (by omega)
          have HS := Aside.mk (And.intro hd.out.lt hw.size)
          clear hx
          go_wp2_with fail
          refine (dPut_yes _ _ _ _ hd.out hq.out.1).mono ?_
          rintro e' w1 ⟨rfl, hd1, k1⟩
          rw [hq.out.2] at hd1
          have hw1 := hw.trans k1 (fun y hy => .inr (by have := HS.out; simp at hy; omega))
          have hd1 := Aside.mk hd1
          clear hc hd hw
          go_wp2
          go_roundw
          case rel => exact ⟨k + 1, by omega, by omega, by go_num, hd1, hw1⟩
          case measure => simp [intOf]; omega
        · have hq : Aside (((z.take 64).take k).length = 64 ∧ (z.take 64).take k = (z.take 64).take (k + 1)) := by
            have := HZ.out
            refine ⟨by simp; omega, ?_⟩
            rw [List.take_take, List.take_take, show min k 64 = 64 by omega, show min (k + 1) 64 = 64 by omega]
          clear hx
          go_wp2_with fail
          refine (dPut_full _ _ _ _ hd.out hq.out.1).mono ?_
          rintro e' w1 ⟨rfl, rfl⟩
          rw [hq.out.2] at hd
          clear hc
          go_wp2
          go_roundw
          case rel => exact ⟨k + 1, by omega, by omega, by go_num, hd, hw⟩
          case measure => simp [intOf]; omega
    · have hd2 : Aside (Dice wr w.heap.size ((z.take 64).drop 0)) := ⟨by
        have := hd.out
        have h2 := HZ.out
        rw [List.take_of_length_le (by simp; omega)] at this
        exact this⟩
      have hcase : ¬ k < len ∨ (k < len ∧ ¬ k < 1000) := by omega
      clear hd hgo
      rcases hcase with q1 | ⟨q1, q2⟩
      all_goals
        go_wp2_with fail
        go_loopw [8] (fun v8 wr => ∃ j : Nat, j ≤ len ∧ j ≤ 64 ∧ v8 = .int .i64 j ∧ Aside (Dice wr w.heap.size ((z.take 64).drop j)) ∧ Keeps [] w wr) (fun v8 _ => 64 - (intOf v8).toNat)
        case atStart => exact ⟨0, by omega, by omega, rfl, hd2, hw⟩
        case round =>
          obtain ⟨j, hj, hj2, rfl, hd, hw⟩ := hrel
          by_cases hgo : j < len ∧ j < 64
          · obtain ⟨h1, h2⟩ := hgo
            obtain ⟨x, rfl, hc, hb⟩ := HN.out.get hw (i := j) (by rw [HZ.out]; exact h1)
            have hq : Aside ((z.take 64).drop j = nth z j :: (z.take 64).drop (j + 1)) := ⟨by
              have := HZ.out
              rw [drop_get _ _ (by simp; omega)]
              simp [nth, List.getD, List.getElem?_take_of_lt h2]⟩
            have HS := Aside.mk (And.intro hd.out.lt hw.size)
            rw [hq.out] at hd
            go_wp2_with fail
            refine (dTake_yes _ _ _ _ hd.out).mono ?_
            rintro e' w1 ⟨rfl, hd1, k1⟩
            have hw1 := hw.trans k1 (fun y hy => .inr (by have := HS.out; simp at hy; omega))
            have hd1 := Aside.mk hd1
            have hc1 := k1.cell hc (by
              have e : (x.add j).block = x.block := by
                unfold Addr.add
                split <;> rfl
              have := HS.out
              simp [e]
              omega)
            clear hc hd hw
            go_wp2
            go_roundw
            case rel => exact ⟨j + 1, by omega, by omega, by go_num, hd1, hw1⟩
            case measure => simp [intOf]; omega
          · have hq : Aside (Dice wr w.heap.size []) := ⟨by
              have := hd.out
              have h2 := HZ.out
              rw [List.drop_of_length_le (by simp; omega)] at this
              exact this⟩
            have hcase : ¬ j < len ∨ (j < len ∧ ¬ j < 64) := by omega
            clear hd hgo
            rcases hcase with q1 | ⟨q1, q2⟩
            all_goals
              go_wp2_with fail
              refine (dLeft _ _ _ hq.out).mono ?_
              rintro e' w1 ⟨rfl, rfl⟩
              go_wp2_with fail
              refine (awake20 _).mono ?_
              rintro e' w1 ⟨rfl, k1⟩
              go_wp2_with fail
              go_ret
              exact ⟨rfl, hw.nil_trans k1⟩
end Go.Proofs.Ythcjcgagbpfkpaa

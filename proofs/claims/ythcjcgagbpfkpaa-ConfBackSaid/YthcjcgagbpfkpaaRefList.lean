/- The document's List and Check; the comparison of numbers; the admin's configuration. -/
import Derived.Test.YthcjcgagbpfkpaaRefOf
import Derived.Test.YthcjcgagbpfkpaaCList
namespace Go.Proofs.Ythcjcgagbpfkpaa
set_option linter.unusedVariables false
set_option linter.unusedSimpArgs false
open Go.RowKit

theorem lt_of_cell' {w : World} {p : Addr} {v : Value} (h : w.cell? p = some v) : p.block < w.heap.size := by
  rcases Nat.lt_or_ge p.block w.heap.size with hlt | hge
  · exact hlt
  · simp [World.cell?, Array.getElem?_eq_none hge] at h

set_option maxRecDepth 100000 in
set_option maxHeartbeats 4000000 in
theorem refList_calls (c : Nat → Int) (w : World) :
    Calls Try.prog 78 #[.agg (confCells c)] w fun e w' => ∃ g cap, e = .returned (.slice (some ⟨g, 0, none⟩) 9 cap) ∧ w.heap.size ≤ g ∧ (∀ i, i < 9 → w'.cell? ⟨g, i, none⟩ = some (.int .i64 (c i))) ∧ Keeps [] w w' := by
  go_enter Try.func78, Try.ntmps78
  go_wp2_with fail
  go_ret
  refine ⟨_, _, rfl, by simp, fun i hi => ?_, ((Keeps.refl [] w).alloc _).alloc _⟩
  have := (Whole.new (w.alloc (.cells (confCells c) 62)) 3 (confCells c)).cell i
  rw [World.size_alloc] at this
  exact this.trans (confCells_at c ⟨i, hi⟩)

set_option maxRecDepth 100000 in
set_option maxHeartbeats 4000000 in
theorem refCheck_calls (c : Nat → Int) (w : World) :
    Calls Try.prog 76 #[.agg (confCells c)] w fun e w' => e = .returned (.int .i64 (checkRes c)) ∧ Keeps [] w w' := by
  go_enter Try.func76, Try.ntmps76
  go_wp2_with fail
  refine (refList_calls c _).mono ?_
  rintro e w1 ⟨g, cap, rfl, hg, hcs, k1⟩
  have k0 := ((Keeps.refl [] w).alloc (.cells (confCells c) 62)).nil_trans k1
  have HK := Aside.mk k0
  have HO := Aside.mk (refOf_nine ⟨g, 0, none⟩ cap c w1 (lt_of_cell' (hcs 0 (by omega))) (fun i hi => by rw [add_zero']; exact hcs i hi))
  clear k0 hcs k1 hg
  go_wp2_with fail
  refine HO.out.mono ?_
  rintro e w2 ⟨rfl, k2⟩
  have HK2 := Aside.mk (HK.out.nil_trans k2)
  clear k2
  go_wp2_with fail
  go_ret
  exact ⟨rfl, HK2.out.alloc _⟩

set_option maxRecDepth 100000 in
set_option maxHeartbeats 4000000 in
theorem ints_calls (x y : Addr) (m n : Nat) (c : Nat → Int) (w : World) (hx : ∀ i, i < 9 → w.cell? (x.add i) = some (.int .i64 (c i))) (hy : ∀ i, i < 9 → w.cell? (y.add i) = some (.int .i64 (c i))) :
    Calls Try.prog 77 #[.slice (some x) 9 m, .slice (some y) 9 n] w fun e w' => e = .returned (.bool true) ∧ Keeps [] w w' := by
  have HX := Aside.mk hx
  have HY := Aside.mk hy
  clear hx hy
  go_enter Try.func77, Try.ntmps77
  go_wp2_with fail
  go_loopw [5] (fun v wr => ∃ k : Nat, k ≤ 9 ∧ v = .int .i64 k ∧ Aside (Keeps [] w wr)) (fun v _ => 9 - (intOf v).toNat)
  case atStart => exact ⟨0, by omega, rfl, ⟨Keeps.refl _ _⟩⟩
  case round =>
    obtain ⟨k, hk, rfl, HW⟩ := hrel
    by_cases hlt : k < 9
    · have d0 := HW.out.cell (HX.out k hlt) (by simp)
      have d1 := HW.out.cell (HY.out k hlt) (by simp)
      have hki : (k : Int) < 9 := by omega
      generalize c k = u at d0 d1
      go_wp2_with fail
      go_quiet (fail)
      go_wp2
      go_roundw
      case rel => exact ⟨k + 1, by omega, by go_num, ⟨HW.out.drewN _⟩⟩
      case measure => simp [intOf]; omega
    · obtain rfl : k = 9 := by omega
      go_wp2_with fail
      go_ret
      exact ⟨rfl, HW.out⟩

/-- The admin's numbers. -/
def admConf : Nat → Int := fun k => if k = 0 then 1040 else if k = 1 ∨ k = 2 then 1048576 else if k = 5 then 32 else if k = 6 then 2 else 0

set_option maxRecDepth 100000 in
theorem admin_calls (w : World) : Calls Try.prog 99 #[] w fun e w' => e = .returned (.agg (confCells admConf)) ∧ Keeps [] w w' := by
  go_enter Try.func99, Try.ntmps99
  go_wp2_with fail
  refine bodyPost_ret (v := .agg (confCells admConf)) (by simp [results, Try.f99, go_sem, admConf]) rfl ⟨rfl, ?_⟩
  exact (Keeps.refl [] w).alloc _
set_option maxRecDepth 100000 in
theorem refAdmin_calls (w : World) : Calls Try.prog 100 #[] w fun e w' => e = .returned (.agg (confCells admConf)) ∧ Keeps [] w w' := by
  go_enter Try.func100, Try.ntmps100
  go_wp2_with fail
  refine bodyPost_ret (v := .agg (confCells admConf)) (by simp [results, Try.f100, go_sem, admConf]) rfl ⟨rfl, ?_⟩
  exact (Keeps.refl [] w).alloc _
end Go.Proofs.Ythcjcgagbpfkpaa

/- MacNone: a table that is not there knows nothing, and issues nothing; and the seat's own awake. -/
import Derived.Test.YthcjcgagbpfkpaaMac
namespace Go.Proofs.Ythcjcgagbpfkpaa
set_option linter.unusedVariables false
set_option linter.unusedSimpArgs false
open Go.RowKit

theorem tagOf_pos (x e o : Nat) : 0 < tagOf x e o := by
  unfold tagOf
  omega
theorem known_new (o ep : Int) (tag : Nat) : known (fun _ => (0, 0, 0)) o ep tag = false := by
  unfold known
  rw [decide_eq_false_iff_not]
  simp
  omega
theorem known_eq {T : Nat → Nat × Nat × Nat} {o ep tag : Nat} (ho : o < 9) (h : (T o).2 = (ep, tag)) (ht : 0 < tag) : known T o ep tag = true := by
  unfold known
  rw [decide_eq_true_eq, Int.toNat_natCast, h]
  omega
theorem known_off {T : Nat → Nat × Nat × Nat} {o ep : Int} {tag : Nat} (h : (T o.toNat).2.2 ≠ tag ∨ tag = 0) : known T o ep tag = false := by
  unfold known
  rw [decide_eq_false_iff_not]
  omega

set_option maxRecDepth 4000 in
set_option maxHeartbeats 2000000 in
theorem awake21 (w : World) : Calls Try.prog 50 #[] w fun e w' => e = .returned (.bool true) ∧ Keeps [] w w' := by
  obtain ⟨t, ht⟩ : ∃ t, t = tagOf 9 1 3 := ⟨_, rfl⟩
  have hp : 0 < t := ht ▸ tagOf_pos _ _ _
  have hn : ((t : Int) != 0) = true := by rw [bne_iff_ne]; omega
  have hkA : Aside (known (upd (fun _ => (0, 0, 0)) 3 (1, 1, t)) 3 1 t = true) := ⟨known_eq (o := 3) (ep := 1) (by decide) (by rw [upd_eq]) hp⟩
  have hkB : Aside (known (upd (fun _ => (0, 0, 0)) 3 (1, 1, t)) 2 1 t = false) := ⟨known_off (.inl (by rw [upd_ne _ _ (by decide)]; simp; omega))⟩
  have HT := Aside.mk ht
  have HP := Aside.mk hp
  clear ht hp
  go_enter Try.func50, Try.ntmps50
  go_wp2_with fail
  refine (dNew _).mono ?_
  rintro e' w1 ⟨rfl, hd1, k1⟩
  have HD1 := Aside.mk hd1
  have HK1 := Aside.mk k1
  clear hd1 k1
  go_wp2_with fail
  refine (dPut_yes _ _ 9 _ HD1.out (by simp)).mono ?_
  rintro e' w2 ⟨rfl, hd2, k2⟩
  have HD2 := Aside.mk hd2
  have HK2 := Aside.mk (HK1.out.trans k2 (fun y hy => .inr (by simp at hy; omega)))
  have HS2 := Aside.mk hd2.lt
  clear hd2 k2
  go_wp2_with fail
  refine (mNew _).mono ?_
  rintro e' w3 ⟨rfl, hm3, k3⟩
  have HM3 := Aside.mk hm3
  have HD3 := Aside.mk (HD2.out.keeps k3 (by simp))
  have HK3 := Aside.mk (HK2.out.nil_trans k3)
  clear hm3 k3
  go_wp2_with fail
  refine (mIssue_yes w2.heap.size _ 3 (by omega) w.heap.size 9 [] (by omega) (by have := HS2.out; omega) _ HM3.out HD3.out (by simp)).mono ?_
  rintro e' w4 ⟨rfl, hm4, hd4, k4⟩
  simp only [Nat.zero_add, ← HT.out] at hm4 ⊢
  have HM4 := Aside.mk hm4
  have HK4 := Aside.mk (HK3.out.trans k4 (fun y hy => .inr (by have := HS2.out; simp at hy; omega)))
  clear hm4 hd4 k4
  go_wp2_with fail
  refine (mKnows _ _ _ _ _ _ HM4.out).mono ?_
  rw [hkA.out]
  rintro e' w5 ⟨rfl, rfl⟩
  go_wp2_with fail
  refine (mKnows _ _ _ _ _ _ HM4.out).mono ?_
  rw [hkB.out]
  rintro e' w5 ⟨rfl, rfl⟩
  go_wp2_with fail
  go_ret
  exact ⟨rfl, HK4.out⟩

set_option maxRecDepth 4000 in
set_option maxHeartbeats 2000000 in
theorem macNone_walk (o : Int) (_ : -9223372036854775808 ≤ o) (_ : o ≤ 9223372036854775807) (ep : Int) (_ : -9223372036854775808 ≤ ep) (_ : ep ≤ 9223372036854775807) (tag : Nat) (ht : tag < 18446744073709551616) (w : World) :
    Calls Try.prog 12 #[.int .i64 o, .int .i64 ep, .int .u64 tag] w fun e w' => e = .returned (.bool true) ∧ Keeps [] w w' := by
  go_enter Try.func12, Try.ntmps12
  go_wp2_with fail
  refine (dNew _).mono ?_
  rintro e' w1 ⟨rfl, hd1, k1⟩
  have HD1 := Aside.mk hd1
  have HK1 := Aside.mk k1
  clear hd1 k1
  go_wp2_with fail
  refine (dPut_yes _ _ 1 _ HD1.out (by simp)).mono ?_
  rintro e' w2 ⟨rfl, hd2, k2⟩
  have HD2 := Aside.mk hd2
  have HK2 := Aside.mk (HK1.out.trans k2 (fun y hy => .inr (by simp at hy; omega)))
  clear hd2 k2
  go_wp2_with fail
  refine (mIssue_nil _ _ _).mono ?_
  rintro e' w3 ⟨rfl, rfl⟩
  go_wp2_with fail
  refine (dLeft _ _ _ HD2.out).mono ?_
  rintro e' w3 ⟨rfl, rfl⟩
  go_wp2_with fail
  refine (mRevoke_nil _ _).mono ?_
  rintro e' w3 ⟨rfl, rfl⟩
  go_wp2_with fail
  refine (mKnows_nil _ _ _ _).mono ?_
  rintro e' w3 ⟨rfl, rfl⟩
  go_wp2_with fail
  refine (mEpoch_nil _ _).mono ?_
  rintro e' w3 ⟨rfl, rfl⟩
  go_wp2_with fail
  refine (mNew _).mono ?_
  rintro e' w3 ⟨rfl, hm3, k3⟩
  have HM3 := Aside.mk hm3
  have HK3 := Aside.mk (HK2.out.nil_trans k3)
  clear hm3 k3
  go_wp2_with fail
  refine (mKnows _ _ _ _ _ _ HM3.out).mono ?_
  rw [known_new]
  rintro e' w4 ⟨rfl, rfl⟩
  go_wp2_with fail
  refine (awake21 _).mono ?_
  rintro e' w5 ⟨rfl, k5⟩
  go_wp2_with fail
  go_ret
  exact ⟨rfl, HK3.out.nil_trans k5⟩
end Go.Proofs.Ythcjcgagbpfkpaa

/- MacFresh: behind an Issue nothing that was issued ahead for the owner is known; behind a Revoke nothing is. -/
import Derived.Test.YthcjcgagbpfkpaaMacNone
namespace Go.Proofs.Ythcjcgagbpfkpaa
set_option linter.unusedVariables false
set_option linter.unusedSimpArgs false
open Go.RowKit

set_option maxRecDepth 8000 in
set_option maxHeartbeats 4000000 in
theorem macFresh_walk (a : Nat) (ha : a < 18446744073709551616) (b : Nat) (hb : b < 18446744073709551616) (c d : Nat) (hc : c < 256) (hd : d < 256) (w : World) :
    Calls Try.prog 11 #[.int .u64 a, .int .u64 b, .agg #[.int .u8 c, .int .u8 d]] w fun e w' => e = .returned (.bool true) ∧ Keeps [] w w' := by
  have HW := Aside.mk (((Keeps.refl [] w).alloc (.cells #[.int .u8 c, .int .u8 d] 91)).drew)
  have g0 : (w.alloc (.cells #[.int .u8 c, .int .u8 d] 91)).cell? ⟨w.heap.size, 0, none⟩ = some (.int .u8 (c : Nat)) := (Whole.new _ _ _).cell 0
  have g1 : (w.alloc (.cells #[.int .u8 c, .int .u8 d] 91)).cell? ⟨w.heap.size, 1, none⟩ = some (.int .u8 (d : Nat)) := (Whole.new _ _ _).cell 1
  obtain ⟨o, ho⟩ : ∃ o, o = c % 9 := ⟨_, rfl⟩
  obtain ⟨p, hp⟩ : ∃ p, p = d % 9 := ⟨_, rfl⟩
  have ho9 : o < 9 := by omega
  have hp9 : p < 9 := by omega
  have e1 : (c : Int) % 9 = o := by omega
  have e2 : (d : Int) % 9 = p := by omega
  clear ho hp
  by_cases hop : o = p
  · have hq : ((o : Int) == p) = true := by rw [beq_iff_eq]; omega
    clear hop
    go_enter Try.func11, Try.ntmps11
    go_wp2_with fail
    go_region
    go_wp2_with fail
    refine (awake21 _).mono ?_
    rintro e' w5 ⟨rfl, k5⟩
    go_wp2_with fail
    go_ret
    exact ⟨rfl, HW.out.nil_trans k5⟩
  · have hq : ((o : Int) == p) = false := by rw [beq_eq_false_iff_ne]; omega
    have HO := Aside.mk hop
    obtain ⟨x, hx⟩ : ∃ x, x = tagOf a 1 o := ⟨_, rfl⟩
    obtain ⟨y, hy⟩ : ∃ y, y = tagOf b 1 p := ⟨_, rfl⟩
    obtain ⟨z, hz⟩ : ∃ z, z = tagOf a 2 o := ⟨_, rfl⟩
    have hzp : 0 < z := hz ▸ tagOf_pos _ _ _
    have hyp : 0 < y := hy ▸ tagOf_pos _ _ _
    obtain ⟨T1, hT1⟩ : ∃ T, T = upd (fun _ => (0, 0, 0)) o (1, 1, x) := ⟨_, rfl⟩
    obtain ⟨T2, hT2⟩ : ∃ T, T = upd T1 p (1, 1, y) := ⟨_, rfl⟩
    obtain ⟨T3, hT3⟩ : ∃ T, T = upd T2 o (2, 2, z) := ⟨_, rfl⟩
    obtain ⟨T4, hT4⟩ : ∃ T, T = upd T3 o (2, 0, 0) := ⟨_, rfl⟩
    have v0 : (T1 p).1 = 0 := by rw [hT1, upd_ne _ _ (Ne.symm hop)]
    have v1 : (T2 o).1 = 1 := by rw [hT2, upd_ne _ _ hop, hT1, upd_eq]
    have v2 : T3 o = (2, 2, z) := by rw [hT3, upd_eq]
    have v3 : T3 p = (1, 1, y) := by rw [hT3, upd_ne _ _ (Ne.symm hop), hT2, upd_eq]
    have v4 : T4 o = (2, 0, 0) := by rw [hT4, upd_eq]
    have v5 : T4 p = (1, 1, y) := by rw [hT4, upd_ne _ _ (Ne.symm hop), v3]
    have k1 : known T3 o 1 x = false := by
      unfold known
      rw [decide_eq_false_iff_not, Int.toNat_natCast, v2]
      simp
    have k2 : known T3 o 2 z = true := known_eq (ep := 2) ho9 (by rw [v2]) hzp
    have k3 : known T3 p 1 y = true := known_eq (ep := 1) hp9 (by rw [v3]) hyp
    have k4 : known T4 o 2 z = false := known_off (.inl (by rw [Int.toNat_natCast, v4]; simp; omega))
    have k5 : known T4 o 0 0 = false := known_off (.inr rfl)
    have k6 : known T4 p 1 y = true := known_eq (ep := 1) hp9 (by rw [v5]) hyp
    have HT := Aside.mk (And.intro hT1 (And.intro hT2 (And.intro hT3 hT4)))
    have HV := Aside.mk (And.intro v0 (And.intro v1 (And.intro v2 v4)))
    have HX := Aside.mk (And.intro hx (And.intro hy hz))
    have HK := Aside.mk (And.intro k1 (And.intro k2 (And.intro k3 (And.intro k4 (And.intro k5 k6)))))
    have HP := Aside.mk (And.intro hzp hyp)
    clear hT1 hT2 hT3 hT4 v0 v1 v2 v3 v4 v5 hx hy hz k1 k2 k3 k4 k5 k6 hop hzp hyp
    go_enter Try.func11, Try.ntmps11
    go_wp2_with fail
    go_region
    clear g0 g1 e1 e2
    go_wp2_with fail
    refine (dNew _).mono ?_
    rintro e' w1 ⟨rfl, hd1, k1⟩
    have hDw : Aside (w.heap.size ≤ (w.alloc (.cells #[.int .u8 (c : Nat), .int .u8 (d : Nat)] 91)).drew.heap.size) := ⟨by simp⟩
    generalize (w.alloc (.cells #[.int .u8 (c : Nat), .int .u8 (d : Nat)] 91)).drew.heap.size = D at hd1 hDw ⊢
    have HD := Aside.mk hd1
    have HWK := Aside.mk (HW.out.nil_trans k1)
    clear hd1 k1 HW
    go_wp2_with fail
    refine (dPut_yes _ _ a _ HD.out (by simp)).mono ?_
    rintro e' w2 ⟨rfl, hd, k⟩
    have HD2 := Aside.mk hd
    have HWK2 := Aside.mk (HWK.out.trans k (fun y hy => .inr (by have := hDw.out; simp at hy; omega)))
    clear hd k HD HWK
    go_wp2_with fail
    refine (dPut_yes _ _ b _ HD2.out (by simp)).mono ?_
    rintro e' w3 ⟨rfl, hd, k⟩
    have HD3 := Aside.mk hd
    have HWK3 := Aside.mk (HWK2.out.trans k (fun y hy => .inr (by have := hDw.out; simp at hy; omega)))
    clear hd k HD2 HWK2
    go_wp2_with fail
    refine (dPut_yes _ _ a _ HD3.out (by simp)).mono ?_
    rintro e' w4 ⟨rfl, hd, k⟩
    have HD4 := Aside.mk (hd.keeps ((Keeps.refl [] _).alloc (.cells macZero 97)) (by simp))
    have HWK4 := Aside.mk ((HWK3.out.trans k (fun y hy => .inr (by have := hDw.out; simp at hy; omega))).alloc (.cells macZero 97))
    have HM4 := Aside.mk (Mac.new w4)
    have hR : Aside (D < w4.heap.size) := ⟨hd.lt⟩
    clear hd k HD3 HWK3
    go_wp2_with fail
    have hRw : Aside (w.heap.size ≤ w4.heap.size) := ⟨by have := hR.out; have := hDw.out; omega⟩
    refine (mIssue_yes w4.heap.size _ o ho9 D a [b, a] ha (by have := hR.out; omega) _ HM4.out HD4.out (by simp)).mono ?_
    rintro e' w5 ⟨rfl, hm, hd, k⟩
    simp only [Nat.zero_add, ← HX.out.1] at hm ⊢
    rw [← HT.out.1] at hm
    have HD5 := Aside.mk hd
    have HM5 := Aside.mk hm
    have HWK5 := Aside.mk (HWK4.out.trans k (fun y hy => .inr (by have := hDw.out; have := hRw.out; simp at hy; omega)))
    clear hd hm k HD4 HM4 HWK4
    go_wp2_with fail
    refine (mIssue_yes w4.heap.size T1 p hp9 D b [a] hb (by have := hR.out; omega) _ HM5.out HD5.out (by rw [HV.out.1]; omega)).mono ?_
    rintro e' w6 ⟨rfl, hm, hd, k⟩
    simp only [HV.out.1, Nat.zero_add, ← HX.out.2.1] at hm ⊢
    rw [← HT.out.2.1] at hm
    have HD6 := Aside.mk hd
    have HM6 := Aside.mk hm
    have HWK6 := Aside.mk (HWK5.out.trans k (fun y hy => .inr (by have := hDw.out; have := hRw.out; simp at hy; omega)))
    clear hd hm k HD5 HM5 HWK5
    go_wp2_with fail
    refine (mIssue_yes w4.heap.size T2 o ho9 D a [] ha (by have := hR.out; omega) _ HM6.out HD6.out (by rw [HV.out.2.1]; omega)).mono ?_
    rintro e' w7 ⟨rfl, hm, hd, k⟩
    simp only [HV.out.2.1, Nat.reduceAdd, ← HX.out.2.2] at hm ⊢
    rw [← HT.out.2.2.1] at hm
    have HM7 := Aside.mk hm
    have HWK7 := Aside.mk (HWK6.out.trans k (fun y hy => .inr (by have := hDw.out; have := hRw.out; simp at hy; omega)))
    clear hd hm k HD6 HM6 HWK6
    go_wp2_with fail
    refine (mKnows _ _ _ _ _ _ HM7.out).mono ?_
    rw [HK.out.1]
    rintro e' w8 ⟨rfl, rfl⟩
    go_wp2_with fail
    refine (mKnows _ _ _ _ _ _ HM7.out).mono ?_
    rw [HK.out.2.1]
    rintro e' w8 ⟨rfl, rfl⟩
    go_wp2_with fail
    refine (mKnows _ _ _ _ _ _ HM7.out).mono ?_
    rw [HK.out.2.2.1]
    rintro e' w8 ⟨rfl, rfl⟩
    go_wp2_with fail
    refine (mRevoke_yes _ _ _ ho9 _ HM7.out (by rw [HV.out.2.2.1]; have := HP.out.1; simp; omega)).mono ?_
    rintro e' w8 ⟨rfl, hm, k⟩
    rw [HV.out.2.2.1] at hm
    simp only [← HT.out.2.2.2] at hm
    have HM8 := Aside.mk hm
    have HWK8 := Aside.mk (HWK7.out.trans k (fun y hy => .inr (by have := hRw.out; simp at hy; omega)))
    clear hm k HM7 HWK7
    go_wp2_with fail
    refine (mKnows _ _ _ _ _ _ HM8.out).mono ?_
    rw [HK.out.2.2.2.1]
    rintro e' w9 ⟨rfl, rfl⟩
    go_wp2_with fail
    refine (mKnows _ _ _ _ 0 _ HM8.out).mono ?_
    rw [HK.out.2.2.2.2.1]
    rintro e' w9 ⟨rfl, rfl⟩
    go_wp2_with fail
    refine (mKnows _ _ _ _ _ _ HM8.out).mono ?_
    rw [HK.out.2.2.2.2.2]
    rintro e' w9 ⟨rfl, rfl⟩
    go_wp2_with fail
    refine (mEpoch _ _ _ ho9 _ HM8.out).mono ?_
    rw [HV.out.2.2.2]
    rintro e' w9 ⟨rfl, rfl⟩
    go_wp2_with fail
    refine (mRevoke_none _ _ _ ho9 _ HM8.out (by rw [HV.out.2.2.2])).mono ?_
    rintro e' w9 ⟨rfl, rfl⟩
    go_wp2_with fail
    refine (awake21 _).mono ?_
    rintro e' w10 ⟨rfl, k⟩
    go_wp2_with fail
    go_ret
    exact ⟨rfl, HWK8.out.nil_trans k⟩
end Go.Proofs.Ythcjcgagbpfkpaa

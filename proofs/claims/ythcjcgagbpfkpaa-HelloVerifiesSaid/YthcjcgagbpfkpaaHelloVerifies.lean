/- HelloVerifies: just the hello is verified of whose owner the table knows the epoch and the tag. -/
import Derived.Test.YthcjcgagbpfkpaaVerify
import Derived.Test.YthcjcgagbpfkpaaHelloBack
import Derived.Test.YthcjcgagbpfkpaaNums
namespace Go.Proofs.Ythcjcgagbpfkpaa
set_option linter.unusedVariables false
set_option linter.unusedSimpArgs false
open Go.RowKit

/-- What stands behind k rounds. -/
structure Rounds (k : Nat) (T : Nat → Nat × Nat × Nat) (o ep tag : Nat) : Prop where
  cnt : ∀ x, x < 9 → (T x).1 ≤ k
  ho : o < 9
  hep : ep ≤ k
  htag : tag < 18446744073709551616
  zero : k = 0 → tag = 0 ∧ ∀ x, (T x).2.2 = 0
  pos : 0 < k → (T o).2 = (ep, tag) ∧ 0 < tag

theorem Rounds.next {k : Nat} {T : Nat → Nat × Nat × Nat} {o ep tag : Nat} (h : Rounds k T o ep tag) {n : Nat} (hn : n < 18446744073709551616) (hk : k < 1000) :
    Rounds (k + 1) (upd T (n % 9) ((T (n % 9)).1 + 1, (T (n % 9)).1 + 1, tagOf n ((T (n % 9)).1 + 1) (n % 9))) (n % 9) ((T (n % 9)).1 + 1) (tagOf n ((T (n % 9)).1 + 1) (n % 9)) := by
  have h9 : n % 9 < 9 := Nat.mod_lt _ (by decide)
  have hc := h.cnt (n % 9) h9
  refine ⟨?_, h9, by omega, ?_, fun e => by omega, fun _ => ⟨by rw [upd_eq], tagOf_pos _ _ _⟩⟩
  · intro x hx
    by_cases he : x = n % 9
    · rw [he, upd_eq]
      simp
      omega
    · rw [upd_ne _ _ he]
      have := h.cnt x hx
      omega
  · unfold tagOf
    have := mixN_lt (n) (256 * ((T (n % 9)).1 + 1) + n % 9)
    omega

set_option maxRecDepth 8000 in
set_option maxHeartbeats 8000000 in
theorem helloVerifies_walk (a : Option Addr) (len cap : Nat) (z : List Nat) (hz : z.length = len) (w : World) (hin : NumsIn w a z) (b : ByteArray) (hb : b.size ≤ 140737488351232) :
    Calls Try.prog 22 #[.slice a len cap, .string b] w fun e w' => e = .returned (.bool true) ∧ Keeps [] w w' := by
  have HN := Aside.mk hin
  have HZ := Aside.mk hz
  clear hin hz
  by_cases hbig : 60 < len
  · go_enter Try.func22, Try.ntmps22
    go_wp2_with fail
    refine (awake22 _).mono ?_
    rintro e' w1 ⟨rfl, k1⟩
    go_wp2_with fail
    go_ret
    exact ⟨rfl, k1⟩
  · go_enter Try.func22, Try.ntmps22
    go_wp2_with fail
    refine (dNew _).mono ?_
    rintro e' w1 ⟨rfl, hd1, k1⟩
    have HD1 := Aside.mk hd1
    have HK1 := Aside.mk k1
    have hs1 : Aside (w.heap.size < w1.heap.size) := ⟨hd1.lt⟩
    clear hd1 k1
    go_wp2_with fail
    refine (mNew _).mono ?_
    rintro e' w2 ⟨rfl, hm2, k2⟩
    have HD2 := Aside.mk (HD1.out.keeps k2 (by simp))
    have HM2 := Aside.mk hm2
    have HK2 := Aside.mk (HK1.out.nil_trans k2)
    clear hm2 k2 HD1 HK1
    go_wp2_with fail
    go_loopw [7, 8, 9, 10] (fun v7 v8 v9 v10 wr => ∃ (k o ep tag : Nat), k ≤ len ∧ v10 = .int .i64 k ∧ v7 = .int .i64 o ∧ v8 = .int .i64 ep ∧ v9 = .int .u64 tag ∧
        Aside (∃ T, Rounds k T o ep tag ∧ Dice wr w.heap.size [] ∧ Mac wr w1.heap.size T ∧ Keeps [] w wr)) (fun _ _ _ v10 _ => len - (intOf v10).toNat)
    case atStart => exact ⟨0, 0, 0, 0, by omega, rfl, rfl, rfl, rfl, ⟨_, ⟨fun x _ => Nat.le_refl _, by omega, by omega, by omega, fun _ => ⟨rfl, fun _ => rfl⟩, fun h => by omega⟩, HD2.out, HM2.out, HK2.out⟩⟩
    case round =>
      obtain ⟨k, o, ep, tag, hk, rfl, rfl, rfl, rfl, hq⟩ := hrel
      obtain ⟨T, hr, hd, hm, hw⟩ := hq.out
      have HR := Aside.mk hr
      have HD := Aside.mk hd
      have HM := Aside.mk hm
      have HW := Aside.mk hw
      clear hq hr hd hm hw
      by_cases hlt : k < len
      · obtain ⟨x, rfl, hc, hb'⟩ := HN.out.get HW.out (i := k) (by rw [HZ.out]; exact hlt)
        have hn0 : nth z k < 18446744073709551616 := by
          have : nth z k ∈ z := by
            unfold nth
            rw [List.getD_eq_getElem?_getD, List.getElem?_eq_getElem (by rw [HZ.out]; exact hlt)]
            exact List.getElem_mem _
          exact HN.out.1 _ this
        obtain ⟨n, hn⟩ : ∃ n, n = nth z k := ⟨_, rfl⟩
        rw [← hn] at hc hn0
        obtain ⟨m, hm⟩ : ∃ m, m = n % 9 := ⟨_, rfl⟩
        have hm9 : m < 9 := by omega
        have e1 : (n : Int) % 9 = m := by omega
        have HMM := Aside.mk hm
        have HX : Aside (x.block < w.heap.size) := ⟨hb'⟩
        clear hm hn hb'
        go_wp2_with fail
        refine (dPut_yes _ _ n _ HD.out (by simp)).mono ?_
        rintro e' w3 ⟨rfl, hd, k3⟩
        have hc := k3.cell hc (by rw [add_block]; have := HX.out; simp; omega)
        have HD3 := Aside.mk hd
        have HM3 := Aside.mk (HM.out.keeps k3 (by have := hs1.out; simp; omega))
        have HW3 := Aside.mk (HW.out.trans k3 (fun y hy => .inr (by simp at hy; omega)))
        clear hd k3 HD HM HW
        go_wp2_with fail
        refine (mIssue_yes _ T m hm9 w.heap.size n [] hn0 (by have := hs1.out; omega) _ HM3.out HD3.out (by have := HR.out.cnt m hm9; omega)).mono ?_
        rintro e' w4 ⟨rfl, hm, hd, k4⟩
        have hr2 := HR.out.next hn0 (by omega)
        rw [← HMM.out] at hr2
        obtain ⟨e, he⟩ : ∃ e, e = (T m).1 + 1 := ⟨_, rfl⟩
        obtain ⟨t, ht⟩ : ∃ t, t = tagOf n e m := ⟨_, rfl⟩
        simp only [← he] at hm hr2 ⊢
        simp only [← ht] at hm hr2 ⊢
        have HD4 := Aside.mk hd
        have HM4 := Aside.mk hm
        have HR4 := Aside.mk hr2
        have HW4 := Aside.mk (HW3.out.trans k4 (fun y hy => .inr (by have := hs1.out; simp at hy; omega)))
        clear hm hd hr2 k4 HD3 HM3 HW3 he ht hc
        go_wp2
        go_roundw
        case rel => exact ⟨k + 1, m, e, t, by omega, by go_num, rfl, rfl, rfl, ⟨_, HR4.out, HD4.out, HM4.out, HW4.out⟩⟩
        case measure => simp [intOf]; omega
      · have hkl : k = len := by omega
        subst hkl
        clear HN HZ hlt HD
        obtain ⟨x, er, hT⟩ := pair_ex (helloT b)
        obtain ⟨xa, xc, xn, rfl⟩ := (by obtain ⟨p, q, r⟩ := x; exact ⟨p, q, r, rfl⟩ : ∃ p q r, x = (p, q, r))
        have C1 := Aside.mk (fun w => rHelloTake_calls b (by omega) hT w)
        have her := helloT_er hT
        have hS := (helloG_put 2147483647 o ep tag (by have := HR.out.ho; omega) (by have := HR.out.hep; omega) HR.out.htag).1 ⟨by have := HR.out.ho; simp; omega, by have := HR.out.hep; simp; omega⟩
        have htx : tag ^^^ 1 < 18446744073709551616 := xor_lt HR.out.htag (by omega)
        have hS2 := (helloG_put 2147483647 o ep (tag ^^^ 1) (by have := HR.out.ho; omega) (by have := HR.out.hep; omega) htx).1 ⟨by have := HR.out.ho; simp; omega, by have := HR.out.hep; simp; omega⟩
        have hxor : bits .xor .u64 (tag : Int) 1 = ((tag ^^^ 1 : Nat) : Int) := u64_xor_nat tag 1 HR.out.htag (by omega)
        obtain ⟨S, hSe⟩ : ∃ S, S = helloText o ep tag := ⟨_, rfl⟩
        obtain ⟨S2, hS2e⟩ : ∃ S, S = helloText o ep (tag ^^^ 1) := ⟨_, rfl⟩
        have n1 := num_size (n := o) (by have := HR.out.ho; omega)
        have n2 := num_size (n := ep) (by have := HR.out.hep; omega)
        have n3 := num_size (n := tag) HR.out.htag
        have n4 := num_size (n := tag ^^^ 1) htx
        have z1 : S.size ≤ 1152921504606846976 := by rw [hSe, helloText]; simp only [ByteArray.size_append]; omega
        have z2 : S2.size ≤ 1152921504606846976 := by rw [hS2e, helloText]; simp only [ByteArray.size_append]; omega
        have C2 := Aside.mk (fun w => rHelloPut_calls o ep tag (by have := HR.out.ho; omega) (by have := HR.out.hep; omega) HR.out.htag w)
        have C3 := Aside.mk (fun w => rHelloPut_calls o ep (tag ^^^ 1) (by have := HR.out.ho; omega) (by have := HR.out.hep; omega) htx w)
        rw [← hSe] at C2 hS
        rw [← hS2e] at C3 hS2
        have ht0 : (T o).2.2 = tag := by
          rcases Nat.eq_zero_or_pos k with h | h
          · rw [(HR.out.zero h).2, (HR.out.zero h).1]
          · rw [(HR.out.pos h).1]
        have hne : tag ≠ tag ^^^ 1 := by
          intro h
          have h1 : tag ^^^ (tag ^^^ 1) = 1 := by rw [← Nat.xor_assoc, Nat.xor_self, Nat.zero_xor]
          rw [← h, Nat.xor_self] at h1
          omega
        have hk2 : known T o ep (tag ^^^ 1) = false := known_off (.inl (by rw [Int.toNat_natCast, ht0]; exact hne))
        obtain ⟨tx, htxe⟩ : ∃ tx, tx = tag ^^^ 1 := ⟨_, rfl⟩
        rw [← htxe] at C3 hS2 hk2 hxor
        have HA := Aside.mk (And.intro hS (And.intro hS2 (And.intro hk2 (And.intro z1 z2))))
        clear hS hS2 hk2 z1 z2 n1 n2 n3 n4 hSe hS2e ht0 hne htxe htx
        have hcase : (er = 0 ∧ known T xa xc xn = true) ∨ (er = 0 ∧ known T xa xc xn = false) ∨ er = 1 := by
          rcases her with h | h
          · cases hkn : known T xa xc xn
            · exact .inr (.inl ⟨h, rfl⟩)
            · exact .inl ⟨h, rfl⟩
          · exact .inr (.inr h)
        have hlen : (k = 0 ∧ known T o ep tag = false) ∨ (0 < k ∧ known T o ep tag = true) := by
          rcases Nat.eq_zero_or_pos k with h | h
          · exact .inl ⟨h, known_off (.inr (HR.out.zero h).1)⟩
          · exact .inr ⟨h, known_eq HR.out.ho (HR.out.pos h).1 (HR.out.pos h).2⟩
        have HC := Aside.mk hcase
        have HL := Aside.mk hlen
        clear hcase hlen her
        rcases HC.out with ⟨rfl, hkn⟩ | ⟨rfl, hkn⟩ | rfl
        · have HT := Aside.mk hT
          have HKN := Aside.mk hkn
          clear hkn
          clear hT HC
          rcases HL.out with ⟨hl, hkl⟩ | ⟨hl, hkl⟩
          · have HLN := Aside.mk hkl
            clear hkl HL
            subst hl
            go_wp2_with fail
            refine (C1.out _).mono ?_
            rintro e' w3 ⟨rfl, k3⟩
            have HW3 := Aside.mk ((HW.out.nil_trans k3).alloc (.cells #[.int .i64 xa, .int .i64 xc, .int .u64 xn] 100))
            have HM3 := Aside.mk (HM.out.keeps (k3.alloc (.cells #[.int .i64 xa, .int .i64 xc, .int .u64 xn] 100)) (by simp))
            have HG := Aside.mk (Whole.new w3 100 #[.int .i64 xa, .int .i64 xc, .int .u64 xn])
            clear k3 HW HM
            go_wp2_with fail
            refine (verify_yes _ T b (by omega) HT.out _ HM3.out HKN.out).mono ?_
            rintro e' w4 ⟨rfl, k4⟩
            have HW4 := Aside.mk (HW3.out.nil_trans k4)
            have HM4 := Aside.mk (HM3.out.keeps k4 (by simp))
            have g := k4.whole HG.out (by simp)
            have g0 : w4.cell? ⟨w3.heap.size, 0, none⟩ = some (.int .i64 xa) := g.cell 0
            have g1 : w4.cell? ⟨w3.heap.size, 1, none⟩ = some (.int .i64 xc) := g.cell 1
            have g2 : w4.cell? ⟨w3.heap.size, 2, none⟩ = some (.int .u64 xn) := g.cell 2
            clear g k4 HW3 HM3
            go_wp2_with fail
            refine (mKnows _ T _ _ _ _ HM4.out).mono ?_
            rw [HKN.out]
            rintro e' w5 ⟨rfl, rfl⟩
            go_wp2_with fail
            refine (C2.out _).mono ?_
            rintro e' w5 ⟨rfl, k5⟩
            have HW5 := Aside.mk (HW4.out.nil_trans k5)
            have HM5 := Aside.mk (HM4.out.keeps k5 (by simp))
            clear k5 HW4 HM4 g0 g1 g2
            go_wp2_with fail
            refine (verify_no _ T S HA.out.2.2.2.1 HA.out.1 _ HM5.out HLN.out).mono ?_
            rintro e' w6 ⟨rfl, k6⟩
            have HW6 := Aside.mk (HW5.out.nil_trans k6)
            have HM6 := Aside.mk (HM5.out.keeps k6 (by simp))
            clear k6 HW5 HM5
            go_wp2_with fail
            refine (C3.out _).mono ?_
            rintro e' w7 ⟨rfl, k7⟩
            have HW7 := Aside.mk (HW6.out.nil_trans k7)
            have HM7 := Aside.mk (HM6.out.keeps k7 (by simp))
            clear k7 HW6 HM6
            go_wp2_with fail
            refine (verify_no _ T S2 HA.out.2.2.2.2 HA.out.2.1 _ HM7.out HA.out.2.2.1).mono ?_
            rintro e' w8 ⟨rfl, k8⟩
            have HW8 := Aside.mk (HW7.out.nil_trans k8)
            clear k8 HW7 HM7
            go_wp2_with fail
            refine (verify_nil S HA.out.2.2.2.1 HA.out.1 _).mono ?_
            rintro e' w9 ⟨rfl, k9⟩
            have HW9 := Aside.mk (HW8.out.nil_trans k9)
            clear k9 HW8
            go_wp2_with fail
            refine (awake22 _).mono ?_
            rintro e' w10 ⟨rfl, k10⟩
            go_wp2_with fail
            go_ret
            exact ⟨rfl, HW9.out.nil_trans k10⟩
          · have HLN := Aside.mk hkl
            clear hkl HL
            go_wp2_with fail
            refine (C1.out _).mono ?_
            rintro e' w3 ⟨rfl, k3⟩
            have HW3 := Aside.mk ((HW.out.nil_trans k3).alloc (.cells #[.int .i64 xa, .int .i64 xc, .int .u64 xn] 100))
            have HM3 := Aside.mk (HM.out.keeps (k3.alloc (.cells #[.int .i64 xa, .int .i64 xc, .int .u64 xn] 100)) (by simp))
            have HG := Aside.mk (Whole.new w3 100 #[.int .i64 xa, .int .i64 xc, .int .u64 xn])
            clear k3 HW HM
            go_wp2_with fail
            refine (verify_yes _ T b (by omega) HT.out _ HM3.out HKN.out).mono ?_
            rintro e' w4 ⟨rfl, k4⟩
            have HW4 := Aside.mk (HW3.out.nil_trans k4)
            have HM4 := Aside.mk (HM3.out.keeps k4 (by simp))
            have g := k4.whole HG.out (by simp)
            have g0 : w4.cell? ⟨w3.heap.size, 0, none⟩ = some (.int .i64 xa) := g.cell 0
            have g1 : w4.cell? ⟨w3.heap.size, 1, none⟩ = some (.int .i64 xc) := g.cell 1
            have g2 : w4.cell? ⟨w3.heap.size, 2, none⟩ = some (.int .u64 xn) := g.cell 2
            clear g k4 HW3 HM3
            go_wp2_with fail
            refine (mKnows _ T _ _ _ _ HM4.out).mono ?_
            rw [HKN.out]
            rintro e' w5 ⟨rfl, rfl⟩
            go_wp2_with fail
            refine (C2.out _).mono ?_
            rintro e' w5 ⟨rfl, k5⟩
            have HW5 := Aside.mk (HW4.out.nil_trans k5)
            have HM5 := Aside.mk (HM4.out.keeps k5 (by simp))
            clear k5 HW4 HM4 g0 g1 g2
            go_wp2_with fail
            refine (verify_yes _ T S HA.out.2.2.2.1 HA.out.1 _ HM5.out HLN.out).mono ?_
            rintro e' w6 ⟨rfl, k6⟩
            have HW6 := Aside.mk (HW5.out.nil_trans k6)
            have HM6 := Aside.mk (HM5.out.keeps k6 (by simp))
            clear k6 HW5 HM5
            go_wp2_with fail
            refine (C3.out _).mono ?_
            rintro e' w7 ⟨rfl, k7⟩
            have HW7 := Aside.mk (HW6.out.nil_trans k7)
            have HM7 := Aside.mk (HM6.out.keeps k7 (by simp))
            clear k7 HW6 HM6
            go_wp2_with fail
            refine (verify_no _ T S2 HA.out.2.2.2.2 HA.out.2.1 _ HM7.out HA.out.2.2.1).mono ?_
            rintro e' w8 ⟨rfl, k8⟩
            have HW8 := Aside.mk (HW7.out.nil_trans k8)
            clear k8 HW7 HM7
            go_wp2_with fail
            refine (verify_nil S HA.out.2.2.2.1 HA.out.1 _).mono ?_
            rintro e' w9 ⟨rfl, k9⟩
            have HW9 := Aside.mk (HW8.out.nil_trans k9)
            clear k9 HW8
            go_wp2_with fail
            refine (awake22 _).mono ?_
            rintro e' w10 ⟨rfl, k10⟩
            go_wp2_with fail
            go_ret
            exact ⟨rfl, HW9.out.nil_trans k10⟩
        · have HT := Aside.mk hT
          have HKN := Aside.mk hkn
          clear hkn
          clear hT HC
          rcases HL.out with ⟨hl, hkl⟩ | ⟨hl, hkl⟩
          · have HLN := Aside.mk hkl
            clear hkl HL
            subst hl
            go_wp2_with fail
            refine (C1.out _).mono ?_
            rintro e' w3 ⟨rfl, k3⟩
            have HW3 := Aside.mk ((HW.out.nil_trans k3).alloc (.cells #[.int .i64 xa, .int .i64 xc, .int .u64 xn] 100))
            have HM3 := Aside.mk (HM.out.keeps (k3.alloc (.cells #[.int .i64 xa, .int .i64 xc, .int .u64 xn] 100)) (by simp))
            have HG := Aside.mk (Whole.new w3 100 #[.int .i64 xa, .int .i64 xc, .int .u64 xn])
            clear k3 HW HM
            go_wp2_with fail
            refine (verify_no _ T b (by omega) HT.out _ HM3.out HKN.out).mono ?_
            rintro e' w4 ⟨rfl, k4⟩
            have HW4 := Aside.mk (HW3.out.nil_trans k4)
            have HM4 := Aside.mk (HM3.out.keeps k4 (by simp))
            have g := k4.whole HG.out (by simp)
            have g0 : w4.cell? ⟨w3.heap.size, 0, none⟩ = some (.int .i64 xa) := g.cell 0
            have g1 : w4.cell? ⟨w3.heap.size, 1, none⟩ = some (.int .i64 xc) := g.cell 1
            have g2 : w4.cell? ⟨w3.heap.size, 2, none⟩ = some (.int .u64 xn) := g.cell 2
            clear g k4 HW3 HM3
            go_wp2_with fail
            refine (mKnows _ T _ _ _ _ HM4.out).mono ?_
            rw [HKN.out]
            rintro e' w5 ⟨rfl, rfl⟩
            go_wp2_with fail
            refine (C2.out _).mono ?_
            rintro e' w5 ⟨rfl, k5⟩
            have HW5 := Aside.mk (HW4.out.nil_trans k5)
            have HM5 := Aside.mk (HM4.out.keeps k5 (by simp))
            clear k5 HW4 HM4 g0 g1 g2
            go_wp2_with fail
            refine (verify_no _ T S HA.out.2.2.2.1 HA.out.1 _ HM5.out HLN.out).mono ?_
            rintro e' w6 ⟨rfl, k6⟩
            have HW6 := Aside.mk (HW5.out.nil_trans k6)
            have HM6 := Aside.mk (HM5.out.keeps k6 (by simp))
            clear k6 HW5 HM5
            go_wp2_with fail
            refine (C3.out _).mono ?_
            rintro e' w7 ⟨rfl, k7⟩
            have HW7 := Aside.mk (HW6.out.nil_trans k7)
            have HM7 := Aside.mk (HM6.out.keeps k7 (by simp))
            clear k7 HW6 HM6
            go_wp2_with fail
            refine (verify_no _ T S2 HA.out.2.2.2.2 HA.out.2.1 _ HM7.out HA.out.2.2.1).mono ?_
            rintro e' w8 ⟨rfl, k8⟩
            have HW8 := Aside.mk (HW7.out.nil_trans k8)
            clear k8 HW7 HM7
            go_wp2_with fail
            refine (verify_nil S HA.out.2.2.2.1 HA.out.1 _).mono ?_
            rintro e' w9 ⟨rfl, k9⟩
            have HW9 := Aside.mk (HW8.out.nil_trans k9)
            clear k9 HW8
            go_wp2_with fail
            refine (awake22 _).mono ?_
            rintro e' w10 ⟨rfl, k10⟩
            go_wp2_with fail
            go_ret
            exact ⟨rfl, HW9.out.nil_trans k10⟩
          · have HLN := Aside.mk hkl
            clear hkl HL
            go_wp2_with fail
            refine (C1.out _).mono ?_
            rintro e' w3 ⟨rfl, k3⟩
            have HW3 := Aside.mk ((HW.out.nil_trans k3).alloc (.cells #[.int .i64 xa, .int .i64 xc, .int .u64 xn] 100))
            have HM3 := Aside.mk (HM.out.keeps (k3.alloc (.cells #[.int .i64 xa, .int .i64 xc, .int .u64 xn] 100)) (by simp))
            have HG := Aside.mk (Whole.new w3 100 #[.int .i64 xa, .int .i64 xc, .int .u64 xn])
            clear k3 HW HM
            go_wp2_with fail
            refine (verify_no _ T b (by omega) HT.out _ HM3.out HKN.out).mono ?_
            rintro e' w4 ⟨rfl, k4⟩
            have HW4 := Aside.mk (HW3.out.nil_trans k4)
            have HM4 := Aside.mk (HM3.out.keeps k4 (by simp))
            have g := k4.whole HG.out (by simp)
            have g0 : w4.cell? ⟨w3.heap.size, 0, none⟩ = some (.int .i64 xa) := g.cell 0
            have g1 : w4.cell? ⟨w3.heap.size, 1, none⟩ = some (.int .i64 xc) := g.cell 1
            have g2 : w4.cell? ⟨w3.heap.size, 2, none⟩ = some (.int .u64 xn) := g.cell 2
            clear g k4 HW3 HM3
            go_wp2_with fail
            refine (mKnows _ T _ _ _ _ HM4.out).mono ?_
            rw [HKN.out]
            rintro e' w5 ⟨rfl, rfl⟩
            go_wp2_with fail
            refine (C2.out _).mono ?_
            rintro e' w5 ⟨rfl, k5⟩
            have HW5 := Aside.mk (HW4.out.nil_trans k5)
            have HM5 := Aside.mk (HM4.out.keeps k5 (by simp))
            clear k5 HW4 HM4 g0 g1 g2
            go_wp2_with fail
            refine (verify_yes _ T S HA.out.2.2.2.1 HA.out.1 _ HM5.out HLN.out).mono ?_
            rintro e' w6 ⟨rfl, k6⟩
            have HW6 := Aside.mk (HW5.out.nil_trans k6)
            have HM6 := Aside.mk (HM5.out.keeps k6 (by simp))
            clear k6 HW5 HM5
            go_wp2_with fail
            refine (C3.out _).mono ?_
            rintro e' w7 ⟨rfl, k7⟩
            have HW7 := Aside.mk (HW6.out.nil_trans k7)
            have HM7 := Aside.mk (HM6.out.keeps k7 (by simp))
            clear k7 HW6 HM6
            go_wp2_with fail
            refine (verify_no _ T S2 HA.out.2.2.2.2 HA.out.2.1 _ HM7.out HA.out.2.2.1).mono ?_
            rintro e' w8 ⟨rfl, k8⟩
            have HW8 := Aside.mk (HW7.out.nil_trans k8)
            clear k8 HW7 HM7
            go_wp2_with fail
            refine (verify_nil S HA.out.2.2.2.1 HA.out.1 _).mono ?_
            rintro e' w9 ⟨rfl, k9⟩
            have HW9 := Aside.mk (HW8.out.nil_trans k9)
            clear k9 HW8
            go_wp2_with fail
            refine (awake22 _).mono ?_
            rintro e' w10 ⟨rfl, k10⟩
            go_wp2_with fail
            go_ret
            exact ⟨rfl, HW9.out.nil_trans k10⟩
        · have HT := Aside.mk hT
          clear hT HC
          rcases HL.out with ⟨hl, hkl⟩ | ⟨hl, hkl⟩
          · have HLN := Aside.mk hkl
            clear hkl HL
            subst hl
            go_wp2_with fail
            refine (C1.out _).mono ?_
            rintro e' w3 ⟨rfl, k3⟩
            have HW3 := Aside.mk ((HW.out.nil_trans k3).alloc (.cells #[.int .i64 xa, .int .i64 xc, .int .u64 xn] 100))
            have HM3 := Aside.mk (HM.out.keeps (k3.alloc (.cells #[.int .i64 xa, .int .i64 xc, .int .u64 xn] 100)) (by simp))
            have HG := Aside.mk (Whole.new w3 100 #[.int .i64 xa, .int .i64 xc, .int .u64 xn])
            clear k3 HW HM
            go_wp2_with fail
            refine (verify_bad _ b (by omega) HT.out (by decide) _).mono ?_
            rintro e' w4 ⟨rfl, k4⟩
            have HW4 := Aside.mk (HW3.out.nil_trans k4)
            have HM4 := Aside.mk (HM3.out.keeps k4 (by simp))
            have g := k4.whole HG.out (by simp)
            have g0 : w4.cell? ⟨w3.heap.size, 0, none⟩ = some (.int .i64 xa) := g.cell 0
            have g1 : w4.cell? ⟨w3.heap.size, 1, none⟩ = some (.int .i64 xc) := g.cell 1
            have g2 : w4.cell? ⟨w3.heap.size, 2, none⟩ = some (.int .u64 xn) := g.cell 2
            clear g k4 HW3 HM3
            go_wp2_with fail
            refine (C2.out _).mono ?_
            rintro e' w5 ⟨rfl, k5⟩
            have HW5 := Aside.mk (HW4.out.nil_trans k5)
            have HM5 := Aside.mk (HM4.out.keeps k5 (by simp))
            clear k5 HW4 HM4 g0 g1 g2
            go_wp2_with fail
            refine (verify_no _ T S HA.out.2.2.2.1 HA.out.1 _ HM5.out HLN.out).mono ?_
            rintro e' w6 ⟨rfl, k6⟩
            have HW6 := Aside.mk (HW5.out.nil_trans k6)
            have HM6 := Aside.mk (HM5.out.keeps k6 (by simp))
            clear k6 HW5 HM5
            go_wp2_with fail
            refine (C3.out _).mono ?_
            rintro e' w7 ⟨rfl, k7⟩
            have HW7 := Aside.mk (HW6.out.nil_trans k7)
            have HM7 := Aside.mk (HM6.out.keeps k7 (by simp))
            clear k7 HW6 HM6
            go_wp2_with fail
            refine (verify_no _ T S2 HA.out.2.2.2.2 HA.out.2.1 _ HM7.out HA.out.2.2.1).mono ?_
            rintro e' w8 ⟨rfl, k8⟩
            have HW8 := Aside.mk (HW7.out.nil_trans k8)
            clear k8 HW7 HM7
            go_wp2_with fail
            refine (verify_nil S HA.out.2.2.2.1 HA.out.1 _).mono ?_
            rintro e' w9 ⟨rfl, k9⟩
            have HW9 := Aside.mk (HW8.out.nil_trans k9)
            clear k9 HW8
            go_wp2_with fail
            refine (awake22 _).mono ?_
            rintro e' w10 ⟨rfl, k10⟩
            go_wp2_with fail
            go_ret
            exact ⟨rfl, HW9.out.nil_trans k10⟩
          · have HLN := Aside.mk hkl
            clear hkl HL
            go_wp2_with fail
            refine (C1.out _).mono ?_
            rintro e' w3 ⟨rfl, k3⟩
            have HW3 := Aside.mk ((HW.out.nil_trans k3).alloc (.cells #[.int .i64 xa, .int .i64 xc, .int .u64 xn] 100))
            have HM3 := Aside.mk (HM.out.keeps (k3.alloc (.cells #[.int .i64 xa, .int .i64 xc, .int .u64 xn] 100)) (by simp))
            have HG := Aside.mk (Whole.new w3 100 #[.int .i64 xa, .int .i64 xc, .int .u64 xn])
            clear k3 HW HM
            go_wp2_with fail
            refine (verify_bad _ b (by omega) HT.out (by decide) _).mono ?_
            rintro e' w4 ⟨rfl, k4⟩
            have HW4 := Aside.mk (HW3.out.nil_trans k4)
            have HM4 := Aside.mk (HM3.out.keeps k4 (by simp))
            have g := k4.whole HG.out (by simp)
            have g0 : w4.cell? ⟨w3.heap.size, 0, none⟩ = some (.int .i64 xa) := g.cell 0
            have g1 : w4.cell? ⟨w3.heap.size, 1, none⟩ = some (.int .i64 xc) := g.cell 1
            have g2 : w4.cell? ⟨w3.heap.size, 2, none⟩ = some (.int .u64 xn) := g.cell 2
            clear g k4 HW3 HM3
            go_wp2_with fail
            refine (C2.out _).mono ?_
            rintro e' w5 ⟨rfl, k5⟩
            have HW5 := Aside.mk (HW4.out.nil_trans k5)
            have HM5 := Aside.mk (HM4.out.keeps k5 (by simp))
            clear k5 HW4 HM4 g0 g1 g2
            go_wp2_with fail
            refine (verify_yes _ T S HA.out.2.2.2.1 HA.out.1 _ HM5.out HLN.out).mono ?_
            rintro e' w6 ⟨rfl, k6⟩
            have HW6 := Aside.mk (HW5.out.nil_trans k6)
            have HM6 := Aside.mk (HM5.out.keeps k6 (by simp))
            clear k6 HW5 HM5
            go_wp2_with fail
            refine (C3.out _).mono ?_
            rintro e' w7 ⟨rfl, k7⟩
            have HW7 := Aside.mk (HW6.out.nil_trans k7)
            have HM7 := Aside.mk (HM6.out.keeps k7 (by simp))
            clear k7 HW6 HM6
            go_wp2_with fail
            refine (verify_no _ T S2 HA.out.2.2.2.2 HA.out.2.1 _ HM7.out HA.out.2.2.1).mono ?_
            rintro e' w8 ⟨rfl, k8⟩
            have HW8 := Aside.mk (HW7.out.nil_trans k8)
            clear k8 HW7 HM7
            go_wp2_with fail
            refine (verify_nil S HA.out.2.2.2.1 HA.out.1 _).mono ?_
            rintro e' w9 ⟨rfl, k9⟩
            have HW9 := Aside.mk (HW8.out.nil_trans k9)
            clear k9 HW8
            go_wp2_with fail
            refine (awake22 _).mono ?_
            rintro e' w10 ⟨rfl, k10⟩
            go_wp2_with fail
            go_ret
            exact ⟨rfl, HW9.out.nil_trans k10⟩
end Go.Proofs.Ythcjcgagbpfkpaa

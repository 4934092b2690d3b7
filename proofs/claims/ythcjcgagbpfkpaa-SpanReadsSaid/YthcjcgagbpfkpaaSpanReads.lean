/- SpanReads: steps of reading, one behind the other. -/
import Derived.Test.YthcjcgagbpfkpaaNext
import Derived.Test.YthcjcgagbpfkpaaNums
namespace Go.Proofs.Ythcjcgagbpfkpaa
set_option linter.unusedVariables false
set_option linter.unusedSimpArgs false
open Go.RowKit

/-- The reader's steps of a slice: a kind, and a bound. -/
def StepsrIn (w : World) (a : Option Addr) (z : List Nat) : Prop :=
  ∀ i, i < z.length → ∃ x, ∃ kind most : Int, a = some x ∧ x.block < w.heap.size ∧ -9223372036854775808 ≤ kind ∧ kind ≤ 9223372036854775807 ∧ -9223372036854775808 ≤ most ∧ most ≤ 9223372036854775807 ∧
    w.cell? (x.add (i * 2)) = some (.int .i64 kind) ∧ w.cell? (x.add (i * 2 + 1)) = some (.int .i64 most)

theorem add_field' (x : Addr) (i j : Nat) (hj : 0 < j) : x.add (i + j) = ⟨(x.add i).block, (x.add i).off + j, none⟩ := by
  unfold Addr.add
  by_cases hi : i = 0
  · subst hi
    rw [if_neg (by omega), if_pos rfl]
    simp
  · rw [if_neg (by omega), if_neg hi]
    simp [Nat.add_assoc]

set_option maxRecDepth 8000 in
set_option maxHeartbeats 8000000 in
theorem spanReads_walk (b : ByteArray) (hb : b.size ≤ 140737488351232) (a : Option Addr) (len cap : Nat) (z : List Nat) (hz : z.length = len) (w : World) (hin : StepsrIn w a z) :
    Calls Try.prog 18 #[.string b, .slice a len cap] w fun e w' => e = .returned (.bool true) ∧ Keeps [] w w' := by
  have HN := Aside.mk hin
  have HZ := Aside.mk hz
  clear hin hz
  have HB : Aside (b.size ≤ 1152921504606846976) := ⟨by omega⟩
  by_cases hbig : 100 < len
  · go_enter Try.func18, Try.ntmps18
    go_wp2_with fail
    refine (awake02 _).mono ?_
    rintro e' w1 ⟨rfl, k1⟩
    go_wp2_with fail
    go_ret
    exact ⟨rfl, k1⟩
  · go_enter Try.func18, Try.ntmps18
    go_wp2_with fail
    refine (read_calls b _).mono ?_
    rintro e' w1 ⟨rfl, hr1, k1⟩
    have HR1 := Aside.mk hr1
    have HK1 := Aside.mk k1
    have hs1 : Aside (w.heap.size < w1.heap.size) := ⟨hr1.lt⟩
    clear hr1 k1
    go_wp2_with fail
    go_loopw [7] (fun v7 wr => ∃ (k p e : Nat), k ≤ len ∧ v7 = .int .i64 k ∧ Aside (∃ n t, RdIn b (p, e) ∧ Rd wr w.heap.size b (p, e) ∧ Whole wr w1.heap.size 123 #[.int .u64 (n : Nat), .string t, .int .i64 p, .int .i64 e] ∧ Keeps [] w wr)) (fun v7 _ => len - (intOf v7).toNat)
    case atStart => exact ⟨0, 0, 0, by omega, rfl, ⟨0, ⟨#[]⟩, RdIn.zero b, HR1.out.keeps ((Keeps.refl [] _).alloc _) (by simp), Whole.new _ _ _, HK1.out.alloc _⟩⟩
    case round =>
      obtain ⟨k, p, e, hk, rfl, hq⟩ := hrel
      obtain ⟨n, t, hri, hrd, hg, hw⟩ := hq.out
      clear hq
      have g0 : wr.cell? ⟨w1.heap.size, 0, none⟩ = some (.int .u64 n) := hg.cell 0
      have g1 : wr.cell? ⟨w1.heap.size, 1, none⟩ = some (.string t) := hg.cell 1
      have g2 : wr.cell? ⟨w1.heap.size, 2, none⟩ = some (.int .i64 p) := hg.cell 2
      have g3 : wr.cell? ⟨w1.heap.size, 3, none⟩ = some (.int .i64 e) := hg.cell 3
      have HG := Aside.mk hg
      have HI := Aside.mk hri
      have HD := Aside.mk hrd
      have HW := Aside.mk hw
      clear hg hri hrd hw
      by_cases hlt : k < len
      · obtain ⟨x, kind, most, rfl, hb', hk1, hk2, hm1, hm2, hc0, hc1⟩ := HN.out k (by rw [HZ.out]; exact hlt)
        have d0 := HW.out.cell hc0 (by simp)
        have d1 := HW.out.cell hc1 (by simp)
        have d2 : wr.cell? ⟨(x.add (k * 2)).block, (x.add (k * 2)).off + 1, none⟩ = some (.int .i64 most) := by rw [← add_field' x (k * 2) 1 (by omega)]; exact d1
        have HX := Aside.mk hb'
        have HS := Aside.mk HD.out.lt
        have HS2 := Aside.mk HG.out.lt
        clear hc0 hc1 hb'
        by_cases q1 : kind = 1
        · subst q1
          obtain ⟨v, s, hv⟩ := pair_ex (rdNum b (p, e))
          obtain ⟨p', e'⟩ := s
          have CN := Aside.mk (fun (w : World) => next_num_at (n0 := n) (t0 := t) (most := most) (w := w) HB.out HI.out hv)
          have hin' := rdNum_in' hv HI.out
          have CR := Aside.mk (fun (wx : World) h => num_at HB.out HI.out w.heap.size wx h hv)
          clear hv
          go_wp2_with fail
          go_still_tail 6, (by kernel_rfl)
          change wpList _ _ _ _ _ wr.drew
          have HGd : Aside (Whole wr.drew w1.heap.size 123 #[.int .u64 (n : Nat), .string t, .int .i64 p, .int .i64 e]) := HG
          have HDd : Aside (Rd wr.drew w.heap.size b (p, e)) := HD
          have HWd : Aside (Keeps [] w wr.drew) := ⟨HW.out.drew⟩
          have HSd : Aside (w1.heap.size < wr.drew.heap.size) := HS2
          have d0' : wr.drew.cell? (x.add (k * 2)) = some (.int .i64 1) := d0
          have d2' : wr.drew.cell? ⟨(x.add (k * 2)).block, (x.add (k * 2)).off + 1, none⟩ = some (.int .i64 most) := d2
          generalize wr.drew = w2 at HGd HDd HWd HSd d0' d2' ⊢
          clear g0 g1 g2 g3 d0 d1 d2 HG HD HW HS HS2
          go_wp2_with fail
          refine (CN.out _).mono ?_
          rintro r1 w3 ⟨rfl, k3⟩
          have hg3 := k3.whole HGd.out (by simp)
          have g0 : w3.cell? ⟨w1.heap.size, 0, none⟩ = some (.int .u64 n) := hg3.cell 0
          have g1 : w3.cell? ⟨w1.heap.size, 1, none⟩ = some (.string t) := hg3.cell 1
          have g2 : w3.cell? ⟨w1.heap.size, 2, none⟩ = some (.int .i64 p) := hg3.cell 2
          have g3 : w3.cell? ⟨w1.heap.size, 3, none⟩ = some (.int .i64 e) := hg3.cell 3
          have gz : ∀ j, w3.frozen? ⟨w1.heap.size, j, none⟩ = false := hg3.frozen
          have HG3 := Aside.mk ((((hg3.set_ 0 (.int .u64 v)).set_ 1 (.string ⟨#[]⟩)).set_ 2 (.int .i64 p')).set_ 3 (.int .i64 e'))
          clear hg3
          go_upto_region 9 with (fail)
          have kt := ((((Keeps.refl [w1.heap.size] w3).setCell (.inl (by simp)) (.int .u64 v) (p := ⟨w1.heap.size, 0, none⟩)).setCell (.inl (by simp)) (.string ⟨#[]⟩) (p := ⟨w1.heap.size, 1, none⟩)).setCell (.inl (by simp)) (.int .i64 p') (p := ⟨w1.heap.size, 2, none⟩)).setCell (.inl (by simp)) (.int .i64 e') (p := ⟨w1.heap.size, 3, none⟩)
          generalize ((((w3.setCell ⟨w1.heap.size, 0, none⟩ (.int .u64 v)).setCell ⟨w1.heap.size, 1, none⟩ (.string ⟨#[]⟩)).setCell ⟨w1.heap.size, 2, none⟩ (.int .i64 p')).setCell ⟨w1.heap.size, 3, none⟩ (.int .i64 e')) = w4 at HG3 kt ⊢
          have HG4 : Aside (Whole w4 w1.heap.size 123 #[.int .u64 (v : Nat), .string ⟨#[]⟩, .int .i64 p', .int .i64 e']) := ⟨by have := HG3.out; simpa using this⟩
          have d0 := kt.cell (k3.cell d0' (by simp)) (by rw [add_block]; have := HX.out; have := hs1.out; simp; omega)
          have d2 := kt.cell (k3.cell d2' (by simp)) (by simp only [add_block]; have := HX.out; have := hs1.out; simp; omega)
          have HD4 := Aside.mk ((HDd.out.keeps k3 (by simp)).keeps kt (by have := hs1.out; simp; omega))
          have HW4 := Aside.mk ((HWd.out.nil_trans k3).trans kt (fun y hy => .inr (by have := hs1.out; simp at hy; omega)))
          have HS4 := Aside.mk HG4.out.lt
          clear g0 g1 g2 g3 gz HG3 kt k3 d0' d2' HGd HDd HWd HSd
          have g0 : w4.cell? ⟨w1.heap.size, 0, none⟩ = some (.int .u64 v) := HG4.out.cell 0
          go_upto_region 13 with (fail)
          go_cut [44] (fun v44 wc => v44 = .bool false ∧ Aside (Rd wc w.heap.size b (p', e') ∧ Whole wc w1.heap.size 123 #[.int .u64 (v : Nat), .string ⟨#[]⟩, .int .i64 p', .int .i64 e'] ∧ Keeps [] w wc))
          case first =>
            have C5 : Aside (Calls Try.prog 73 #[.pointer (some ⟨w.heap.size, 0, none⟩)] w4.drew fun r w' => r = .returned (.int .u64 v) ∧ w'.cell? ⟨w1.heap.size, 0, none⟩ = some (.int .u64 v) ∧
                Aside (Rd w' w.heap.size b (p', e') ∧ Whole w' w1.heap.size 123 #[.int .u64 (v : Nat), .string ⟨#[]⟩, .int .i64 p', .int .i64 e'] ∧ Keeps [] w w')) := ⟨by
              refine (CR.out w4.drew HD4.out).mono ?_
              rintro r w5 ⟨rfl, hd5, k5⟩
              have hg5 := k5.whole (HG4.out.drew) (by have := hs1.out; simp; omega)
              exact ⟨rfl, hg5.cell 0, ⟨hd5, hg5, HW4.out.drew.trans k5 (fun y hy => .inr (by simp at hy; omega))⟩⟩⟩
            go_region_with (go_at_call 73; refine C5.out.mono ?_; rintro e5 w5 ⟨rfl, g05, A5⟩)
            all_goals
              go_wp2_with fail
              go_meet
              exact ⟨rfl, A5⟩
          case rest =>
            obtain ⟨rfl, A5⟩ := hcut
            have g2 : wc.cell? ⟨w1.heap.size, 2, none⟩ = some (.int .i64 p') := A5.out.2.1.cell 2
            clear g0 d0 d2 CN CR HD4 HG4 HW4 HS4
            go_wp2_with fail
            have C7 : Aside (∀ n, Calls Try.prog 70 #[.pointer (some ⟨w.heap.size, 0, none⟩)] (wc.drewN n) fun r w' => r = .returned (.int .i64 (p' : Nat)) ∧ wc.drewN n = w') := ⟨fun n => at_calls w.heap.size b (p', e') (wc.drewN n) A5.out.1⟩
            go_quiet ((go_at_call 70; exact Calls.quiet_of_same ((C7.out _).mono (fun _ _ h => ⟨h.1, h.2.symm⟩))))
            go_wp2
            go_roundw
            case rel => exact ⟨k + 1, p', e', by omega, by go_num, ⟨v, ⟨#[]⟩, hin'.1, A5.out.1, A5.out.2.1, A5.out.2.2.drewN _⟩⟩
            case measure => simp [intOf]; omega
        · by_cases q2 : kind = 2
          · subst q2
            clear q1
            obtain ⟨v, s, hv⟩ := pair_ex (rdInt most b (p, e))
            obtain ⟨p', e'⟩ := s
            have CN := Aside.mk (fun (w : World) => next_int_at (n0 := n) (t0 := t) (w := w) HB.out HI.out hm2 hv)
            have hin' := rdInt_in' hv HI.out
            have CR := Aside.mk (fun (wx : World) h => int_at HB.out HI.out w.heap.size wx h hm2 hv)
            have hwv : IntKind.u64.wrap (v : Int) = v := by
              have := hin'.2
              rw [u64_wrap_nat]
              omega
            have HIN := Aside.mk hin'
            clear hv hin'
            go_wp2_with fail
            go_still_tail 6, (by kernel_rfl)
            change wpList _ _ _ _ _ wr.drew
            have HGd : Aside (Whole wr.drew w1.heap.size 123 #[.int .u64 (n : Nat), .string t, .int .i64 p, .int .i64 e]) := HG
            have HDd : Aside (Rd wr.drew w.heap.size b (p, e)) := HD
            have HWd : Aside (Keeps [] w wr.drew) := ⟨HW.out.drew⟩
            have HSd : Aside (w1.heap.size < wr.drew.heap.size) := HS2
            have d0' : wr.drew.cell? (x.add (k * 2)) = some (.int .i64 2) := d0
            have d2' : wr.drew.cell? ⟨(x.add (k * 2)).block, (x.add (k * 2)).off + 1, none⟩ = some (.int .i64 most) := d2
            generalize wr.drew = w2 at HGd HDd HWd HSd d0' d2' ⊢
            clear g0 g1 g2 g3 d0 d1 d2 HG HD HW HS HS2
            go_wp2_with fail
            refine (CN.out _).mono ?_
            rintro r1 w3 ⟨rfl, k3⟩
            have hg3 := k3.whole HGd.out (by simp)
            have g0 : w3.cell? ⟨w1.heap.size, 0, none⟩ = some (.int .u64 n) := hg3.cell 0
            have g1 : w3.cell? ⟨w1.heap.size, 1, none⟩ = some (.string t) := hg3.cell 1
            have g2 : w3.cell? ⟨w1.heap.size, 2, none⟩ = some (.int .i64 p) := hg3.cell 2
            have g3 : w3.cell? ⟨w1.heap.size, 3, none⟩ = some (.int .i64 e) := hg3.cell 3
            have gz : ∀ j, w3.frozen? ⟨w1.heap.size, j, none⟩ = false := hg3.frozen
            have HG3 := Aside.mk ((((hg3.set_ 0 (.int .u64 v)).set_ 1 (.string ⟨#[]⟩)).set_ 2 (.int .i64 p')).set_ 3 (.int .i64 e'))
            clear hg3
            go_upto_region 9 with (fail)
            have kt := ((((Keeps.refl [w1.heap.size] w3).setCell (.inl (by simp)) (.int .u64 v) (p := ⟨w1.heap.size, 0, none⟩)).setCell (.inl (by simp)) (.string ⟨#[]⟩) (p := ⟨w1.heap.size, 1, none⟩)).setCell (.inl (by simp)) (.int .i64 p') (p := ⟨w1.heap.size, 2, none⟩)).setCell (.inl (by simp)) (.int .i64 e') (p := ⟨w1.heap.size, 3, none⟩)
            generalize ((((w3.setCell ⟨w1.heap.size, 0, none⟩ (.int .u64 v)).setCell ⟨w1.heap.size, 1, none⟩ (.string ⟨#[]⟩)).setCell ⟨w1.heap.size, 2, none⟩ (.int .i64 p')).setCell ⟨w1.heap.size, 3, none⟩ (.int .i64 e')) = w4 at HG3 kt ⊢
            have HG4 : Aside (Whole w4 w1.heap.size 123 #[.int .u64 (v : Nat), .string ⟨#[]⟩, .int .i64 p', .int .i64 e']) := ⟨by have := HG3.out; simpa using this⟩
            have d0 := kt.cell (k3.cell d0' (by simp)) (by rw [add_block]; have := HX.out; have := hs1.out; simp; omega)
            have d2 := kt.cell (k3.cell d2' (by simp)) (by simp only [add_block]; have := HX.out; have := hs1.out; simp; omega)
            have HD4 := Aside.mk ((HDd.out.keeps k3 (by simp)).keeps kt (by have := hs1.out; simp; omega))
            have HW4 := Aside.mk ((HWd.out.nil_trans k3).trans kt (fun y hy => .inr (by have := hs1.out; simp at hy; omega)))
            have HS4 := Aside.mk HG4.out.lt
            clear g0 g1 g2 g3 gz HG3 kt k3 d0' d2' HGd HDd HWd HSd
            have g0 : w4.cell? ⟨w1.heap.size, 0, none⟩ = some (.int .u64 v) := HG4.out.cell 0
            go_upto_region 16 with (fail)
            go_cut [57] (fun v57 wc => v57 = .bool false ∧ Aside (Rd wc w.heap.size b (p', e') ∧ Whole wc w1.heap.size 123 #[.int .u64 (v : Nat), .string ⟨#[]⟩, .int .i64 p', .int .i64 e'] ∧ Keeps [] w wc))
            case first =>
              have C5 : Aside (Calls Try.prog 74 #[.pointer (some ⟨w.heap.size, 0, none⟩), .int .i64 most] w4.drew fun r w' => r = .returned (.int .i64 v) ∧ w'.cell? ⟨w1.heap.size, 0, none⟩ = some (.int .u64 v) ∧
                  w'.cell? ⟨(x.add (k * 2)).block, (x.add (k * 2)).off + 1, none⟩ = some (.int .i64 most) ∧
                  Aside (Rd w' w.heap.size b (p', e') ∧ Whole w' w1.heap.size 123 #[.int .u64 (v : Nat), .string ⟨#[]⟩, .int .i64 p', .int .i64 e'] ∧ Keeps [] w w')) := ⟨by
                refine (CR.out w4.drew HD4.out).mono ?_
                rintro r w5 ⟨rfl, hd5, k5⟩
                have hg5 := k5.whole (HG4.out.drew) (by have := hs1.out; simp; omega)
                exact ⟨rfl, hg5.cell 0, k5.cell (show w4.drew.cell? _ = _ from d2) (by simp only [add_block]; have := HX.out; simp; omega), ⟨hd5, hg5, HW4.out.drew.trans k5 (fun y hy => .inr (by simp at hy; omega))⟩⟩⟩
              go_region_with (go_at_call 74; refine C5.out.mono ?_; rintro e5 w5 ⟨rfl, g05, d25, A5⟩)
              all_goals
                go_wp2_with fail
                go_meet
                exact ⟨rfl, A5⟩
            case rest =>
              obtain ⟨rfl, A5⟩ := hcut
              have g2 : wc.cell? ⟨w1.heap.size, 2, none⟩ = some (.int .i64 p') := A5.out.2.1.cell 2
              clear g0 d0 d2 CN CR HD4 HG4 HW4 HS4
              go_wp2_with fail
              have C7 : Aside (∀ n, Calls Try.prog 70 #[.pointer (some ⟨w.heap.size, 0, none⟩)] (wc.drewN n) fun r w' => r = .returned (.int .i64 (p' : Nat)) ∧ wc.drewN n = w') := ⟨fun n => at_calls w.heap.size b (p', e') (wc.drewN n) A5.out.1⟩
              go_quiet ((go_at_call 70; exact Calls.quiet_of_same ((C7.out _).mono (fun _ _ h => ⟨h.1, h.2.symm⟩))))
              go_wp2
              go_roundw
              case rel => exact ⟨k + 1, p', e', by omega, by go_num, ⟨v, ⟨#[]⟩, HIN.out.1, A5.out.1, A5.out.2.1, A5.out.2.2.drewN _⟩⟩
              case measure => simp [intOf]; omega
          · by_cases q3 : kind = 3
            · subst q3
              clear q1 q2
              obtain ⟨v, s, hv⟩ := pair_ex (rdText most b (p, e))
              obtain ⟨p', e'⟩ := s
              have CN := Aside.mk (fun (w : World) => next_text_at (n0 := n) (t0 := t) (w := w) HB.out HI.out hm2 hv)
              have hin' := rdText_in' hv HI.out
              have CR := Aside.mk (fun (wx : World) h => text_at HB.out HI.out w.heap.size wx h hm2 hv)
              clear hv
              go_wp2_with fail
              go_still_tail 6, (by kernel_rfl)
              change wpList _ _ _ _ _ wr.drew
              have HGd : Aside (Whole wr.drew w1.heap.size 123 #[.int .u64 (n : Nat), .string t, .int .i64 p, .int .i64 e]) := HG
              have HDd : Aside (Rd wr.drew w.heap.size b (p, e)) := HD
              have HWd : Aside (Keeps [] w wr.drew) := ⟨HW.out.drew⟩
              have HSd : Aside (w1.heap.size < wr.drew.heap.size) := HS2
              have d0' : wr.drew.cell? (x.add (k * 2)) = some (.int .i64 3) := d0
              have d2' : wr.drew.cell? ⟨(x.add (k * 2)).block, (x.add (k * 2)).off + 1, none⟩ = some (.int .i64 most) := d2
              generalize wr.drew = w2 at HGd HDd HWd HSd d0' d2' ⊢
              clear g0 g1 g2 g3 d0 d1 d2 HG HD HW HS HS2
              go_wp2_with fail
              refine (CN.out _).mono ?_
              rintro r1 w3 ⟨rfl, k3⟩
              have hg3 := k3.whole HGd.out (by simp)
              have g0 : w3.cell? ⟨w1.heap.size, 0, none⟩ = some (.int .u64 n) := hg3.cell 0
              have g1 : w3.cell? ⟨w1.heap.size, 1, none⟩ = some (.string t) := hg3.cell 1
              have g2 : w3.cell? ⟨w1.heap.size, 2, none⟩ = some (.int .i64 p) := hg3.cell 2
              have g3 : w3.cell? ⟨w1.heap.size, 3, none⟩ = some (.int .i64 e) := hg3.cell 3
              have gz : ∀ j, w3.frozen? ⟨w1.heap.size, j, none⟩ = false := hg3.frozen
              have HG3 := Aside.mk ((((hg3.set_ 0 (.int .u64 0)).set_ 1 (.string v)).set_ 2 (.int .i64 p')).set_ 3 (.int .i64 e'))
              clear hg3
              go_upto_region 9 with (fail)
              have kt := ((((Keeps.refl [w1.heap.size] w3).setCell (.inl (by simp)) (.int .u64 0) (p := ⟨w1.heap.size, 0, none⟩)).setCell (.inl (by simp)) (.string v) (p := ⟨w1.heap.size, 1, none⟩)).setCell (.inl (by simp)) (.int .i64 p') (p := ⟨w1.heap.size, 2, none⟩)).setCell (.inl (by simp)) (.int .i64 e') (p := ⟨w1.heap.size, 3, none⟩)
              generalize ((((w3.setCell ⟨w1.heap.size, 0, none⟩ (.int .u64 0)).setCell ⟨w1.heap.size, 1, none⟩ (.string v)).setCell ⟨w1.heap.size, 2, none⟩ (.int .i64 p')).setCell ⟨w1.heap.size, 3, none⟩ (.int .i64 e')) = w4 at HG3 kt ⊢
              have HG4 : Aside (Whole w4 w1.heap.size 123 #[.int .u64 (0 : Nat), .string v, .int .i64 p', .int .i64 e']) := ⟨by have := HG3.out; simpa using this⟩
              have d0 := kt.cell (k3.cell d0' (by simp)) (by rw [add_block]; have := HX.out; have := hs1.out; simp; omega)
              have d2 := kt.cell (k3.cell d2' (by simp)) (by simp only [add_block]; have := HX.out; have := hs1.out; simp; omega)
              have HD4 := Aside.mk ((HDd.out.keeps k3 (by simp)).keeps kt (by have := hs1.out; simp; omega))
              have HW4 := Aside.mk ((HWd.out.nil_trans k3).trans kt (fun y hy => .inr (by have := hs1.out; simp at hy; omega)))
              have HS4 := Aside.mk HG4.out.lt
              clear g0 g1 g2 g3 gz HG3 kt k3 d0' d2' HGd HDd HWd HSd
              have g0 : w4.cell? ⟨w1.heap.size, 1, none⟩ = some (.string v) := HG4.out.cell 1
              go_upto_region 19 with (fail)
              go_cut [69] (fun v69 wc => v69 = .bool false ∧ Aside (Rd wc w.heap.size b (p', e') ∧ Whole wc w1.heap.size 123 #[.int .u64 (0 : Nat), .string v, .int .i64 p', .int .i64 e'] ∧ Keeps [] w wc))
              case first =>
                have C5 : Aside (Calls Try.prog 69 #[.pointer (some ⟨w.heap.size, 0, none⟩), .int .i64 most] w4.drew fun r w' => r = .returned (.string v) ∧ w'.cell? ⟨w1.heap.size, 1, none⟩ = some (.string v) ∧
                    w'.cell? ⟨(x.add (k * 2)).block, (x.add (k * 2)).off + 1, none⟩ = some (.int .i64 most) ∧
                    Aside (Rd w' w.heap.size b (p', e') ∧ Whole w' w1.heap.size 123 #[.int .u64 (0 : Nat), .string v, .int .i64 p', .int .i64 e'] ∧ Keeps [] w w')) := ⟨by
                  refine (CR.out w4.drew HD4.out).mono ?_
                  rintro r w5 ⟨rfl, hd5, k5⟩
                  have hg5 := k5.whole (HG4.out.drew) (by have := hs1.out; simp; omega)
                  exact ⟨rfl, hg5.cell 1, k5.cell (show w4.drew.cell? _ = _ from d2) (by simp only [add_block]; have := HX.out; simp; omega), ⟨hd5, hg5, HW4.out.drew.trans k5 (fun y hy => .inr (by simp at hy; omega))⟩⟩⟩
                go_region_with (go_at_call 69; refine C5.out.mono ?_; rintro e5 w5 ⟨rfl, g05, d25, A5⟩)
                all_goals
                  go_wp2_with fail
                  go_meet
                  exact ⟨rfl, A5⟩
              case rest =>
                obtain ⟨rfl, A5⟩ := hcut
                have g2 : wc.cell? ⟨w1.heap.size, 2, none⟩ = some (.int .i64 p') := A5.out.2.1.cell 2
                clear g0 d0 d2 CN CR HD4 HG4 HW4 HS4
                go_wp2_with fail
                have C7 : Aside (∀ n, Calls Try.prog 70 #[.pointer (some ⟨w.heap.size, 0, none⟩)] (wc.drewN n) fun r w' => r = .returned (.int .i64 (p' : Nat)) ∧ wc.drewN n = w') := ⟨fun n => at_calls w.heap.size b (p', e') (wc.drewN n) A5.out.1⟩
                go_quiet ((go_at_call 70; exact Calls.quiet_of_same ((C7.out _).mono (fun _ _ h => ⟨h.1, h.2.symm⟩))))
                go_wp2
                go_roundw
                case rel => exact ⟨k + 1, p', e', by omega, by go_num, ⟨0, v, hin', A5.out.1, A5.out.2.1, A5.out.2.2.drewN _⟩⟩
                case measure => simp [intOf]; omega
            · skip
              obtain ⟨v, s, hv⟩ := pair_ex (rdRest b (p, e))
              obtain ⟨p', e'⟩ := s
              have CN := Aside.mk (fun (w : World) => next_rest_at (n0 := n) (t0 := t) (most := most) (w := w) HB.out HI.out q1 q2 q3 hv)
              have hin' := rdRest_in' hv HI.out
              have CR := Aside.mk (fun (wx : World) h => rest_at HB.out HI.out w.heap.size wx h hv)
              have b1 : (kind == 1) = false := by rw [beq_eq_false_iff_ne]; exact q1
              have b2 : (kind == 2) = false := by rw [beq_eq_false_iff_ne]; exact q2
              have b3 : (kind == 3) = false := by rw [beq_eq_false_iff_ne]; exact q3
              clear hv q1 q2 q3
              go_wp2_with fail
              go_still_tail 6, (by kernel_rfl)
              change wpList _ _ _ _ _ wr.drew
              have HGd : Aside (Whole wr.drew w1.heap.size 123 #[.int .u64 (n : Nat), .string t, .int .i64 p, .int .i64 e]) := HG
              have HDd : Aside (Rd wr.drew w.heap.size b (p, e)) := HD
              have HWd : Aside (Keeps [] w wr.drew) := ⟨HW.out.drew⟩
              have HSd : Aside (w1.heap.size < wr.drew.heap.size) := HS2
              have d0' : wr.drew.cell? (x.add (k * 2)) = some (.int .i64 kind) := d0
              have d2' : wr.drew.cell? ⟨(x.add (k * 2)).block, (x.add (k * 2)).off + 1, none⟩ = some (.int .i64 most) := d2
              generalize wr.drew = w2 at HGd HDd HWd HSd d0' d2' ⊢
              clear g0 g1 g2 g3 d0 d1 d2 HG HD HW HS HS2
              go_wp2_with fail
              refine (CN.out _).mono ?_
              rintro r1 w3 ⟨rfl, k3⟩
              have hg3 := k3.whole HGd.out (by simp)
              have g0 : w3.cell? ⟨w1.heap.size, 0, none⟩ = some (.int .u64 n) := hg3.cell 0
              have g1 : w3.cell? ⟨w1.heap.size, 1, none⟩ = some (.string t) := hg3.cell 1
              have g2 : w3.cell? ⟨w1.heap.size, 2, none⟩ = some (.int .i64 p) := hg3.cell 2
              have g3 : w3.cell? ⟨w1.heap.size, 3, none⟩ = some (.int .i64 e) := hg3.cell 3
              have gz : ∀ j, w3.frozen? ⟨w1.heap.size, j, none⟩ = false := hg3.frozen
              have HG3 := Aside.mk ((((hg3.set_ 0 (.int .u64 0)).set_ 1 (.string v)).set_ 2 (.int .i64 p')).set_ 3 (.int .i64 e'))
              clear hg3
              go_upto_region 9 with (fail)
              have kt := ((((Keeps.refl [w1.heap.size] w3).setCell (.inl (by simp)) (.int .u64 0) (p := ⟨w1.heap.size, 0, none⟩)).setCell (.inl (by simp)) (.string v) (p := ⟨w1.heap.size, 1, none⟩)).setCell (.inl (by simp)) (.int .i64 p') (p := ⟨w1.heap.size, 2, none⟩)).setCell (.inl (by simp)) (.int .i64 e') (p := ⟨w1.heap.size, 3, none⟩)
              generalize ((((w3.setCell ⟨w1.heap.size, 0, none⟩ (.int .u64 0)).setCell ⟨w1.heap.size, 1, none⟩ (.string v)).setCell ⟨w1.heap.size, 2, none⟩ (.int .i64 p')).setCell ⟨w1.heap.size, 3, none⟩ (.int .i64 e')) = w4 at HG3 kt ⊢
              have HG4 : Aside (Whole w4 w1.heap.size 123 #[.int .u64 (0 : Nat), .string v, .int .i64 p', .int .i64 e']) := ⟨by have := HG3.out; simpa using this⟩
              have d0 := kt.cell (k3.cell d0' (by simp)) (by rw [add_block]; have := HX.out; have := hs1.out; simp; omega)
              have d2 := kt.cell (k3.cell d2' (by simp)) (by simp only [add_block]; have := HX.out; have := hs1.out; simp; omega)
              have HD4 := Aside.mk ((HDd.out.keeps k3 (by simp)).keeps kt (by have := hs1.out; simp; omega))
              have HW4 := Aside.mk ((HWd.out.nil_trans k3).trans kt (fun y hy => .inr (by have := hs1.out; simp at hy; omega)))
              have HS4 := Aside.mk HG4.out.lt
              clear g0 g1 g2 g3 gz HG3 kt k3 d0' d2' HGd HDd HWd HSd
              have g0 : w4.cell? ⟨w1.heap.size, 1, none⟩ = some (.string v) := HG4.out.cell 1
              go_upto_region 10 with (fail)
              go_cut [37] (fun v37 wc => v37 = .bool false ∧ Aside (Rd wc w.heap.size b (p', e') ∧ Whole wc w1.heap.size 123 #[.int .u64 (0 : Nat), .string v, .int .i64 p', .int .i64 e'] ∧ Keeps [] w wc))
              case first =>
                have C5 : Aside (Calls Try.prog 71 #[.pointer (some ⟨w.heap.size, 0, none⟩)] w4.drew fun r w' => r = .returned (.string v) ∧ w'.cell? ⟨w1.heap.size, 1, none⟩ = some (.string v) ∧
                    Aside (Rd w' w.heap.size b (p', e') ∧ Whole w' w1.heap.size 123 #[.int .u64 (0 : Nat), .string v, .int .i64 p', .int .i64 e'] ∧ Keeps [] w w')) := ⟨by
                  refine (CR.out w4.drew HD4.out).mono ?_
                  rintro r w5 ⟨rfl, hd5, k5⟩
                  have hg5 := k5.whole (HG4.out.drew) (by have := hs1.out; simp; omega)
                  exact ⟨rfl, hg5.cell 1, ⟨hd5, hg5, HW4.out.drew.trans k5 (fun y hy => .inr (by simp at hy; omega))⟩⟩⟩
                go_region_with (go_at_call 71; refine C5.out.mono ?_; rintro e5 w5 ⟨rfl, g05, A5⟩)
                all_goals
                  go_wp2_with fail
                  go_meet
                  exact ⟨rfl, A5⟩
              case rest =>
                obtain ⟨rfl, A5⟩ := hcut
                have g2 : wc.cell? ⟨w1.heap.size, 2, none⟩ = some (.int .i64 p') := A5.out.2.1.cell 2
                clear g0 d0 d2 CN CR HD4 HG4 HW4 HS4
                go_wp2_with fail
                have C7 : Aside (∀ n, Calls Try.prog 70 #[.pointer (some ⟨w.heap.size, 0, none⟩)] (wc.drewN n) fun r w' => r = .returned (.int .i64 (p' : Nat)) ∧ wc.drewN n = w') := ⟨fun n => at_calls w.heap.size b (p', e') (wc.drewN n) A5.out.1⟩
                go_quiet ((go_at_call 70; exact Calls.quiet_of_same ((C7.out _).mono (fun _ _ h => ⟨h.1, h.2.symm⟩))))
                go_wp2
                go_roundw
                case rel => exact ⟨k + 1, p', e', by omega, by go_num, ⟨0, v, hin', A5.out.1, A5.out.2.1, A5.out.2.2.drewN _⟩⟩
                case measure => simp [intOf]; omega
      · obtain ⟨d, hd⟩ : ∃ d, rdDone b (p, e) = d := ⟨_, rfl⟩
        have CD := Aside.mk (fun (wx : World) h => done_at HB.out HI.out w.heap.size wx h hd)
        by_cases he : e = 0
        · subst he
          by_cases hpb : p < b.size
          · rw [rdDone_left hpb] at hd
            subst hd
            go_wp2_with fail
            refine (CD.out _ HD.out).mono ?_
            rintro e2 w2 ⟨rfl, k2⟩
            go_wp2_with fail
            refine (awake02 _).mono ?_
            rintro e' w3 ⟨rfl, k3⟩
            go_wp2_with fail
            go_ret
            exact ⟨rfl, (HW.out.nil_trans k2).nil_trans k3⟩
          · rw [rdDone_all hpb] at hd
            subst hd
            go_wp2_with fail
            refine (CD.out _ HD.out).mono ?_
            rintro e2 w2 ⟨rfl, k2⟩
            go_wp2_with fail
            refine (awake02 _).mono ?_
            rintro e' w3 ⟨rfl, k3⟩
            go_wp2_with fail
            go_ret
            exact ⟨rfl, (HW.out.nil_trans k2).nil_trans k3⟩
        · rw [rdDone_err he] at hd
          have be : ((e : Int) == 0) = false := by rw [beq_eq_false_iff_ne]; omega
          subst hd
          clear he
          go_wp2_with fail
          refine (CD.out _ HD.out).mono ?_
          rintro e2 w2 ⟨rfl, k2⟩
          go_wp2_with fail
          refine (awake02 _).mono ?_
          rintro e' w3 ⟨rfl, k3⟩
          go_wp2_with fail
          go_ret
          exact ⟨rfl, (HW.out.nil_trans k2).nil_trans k3⟩
end Go.Proofs.Ythcjcgagbpfkpaa

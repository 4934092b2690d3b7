/- MacSteps: what any steps do to a table, and what it knows behind each. -/
import Derived.Test.YthcjcgagbpfkpaaMacLaw
import Derived.Test.YthcjcgagbpfkpaaNums
namespace Go.Proofs.Ythcjcgagbpfkpaa
set_option linter.unusedVariables false
set_option linter.unusedSimpArgs false
open Go.RowKit

theorem owns_keep {w w' : World} {base : Nat} {e : TypeId} {size n : Nat} {v : Value} {xs : List Value} {K : List Nat} (h : w.ownsRow base e size v n xs) (k : Keeps K w w') (hK : ∀ y ∈ K, y < base) : w'.ownsRow base e size v n xs := by
  refine ⟨h.1, ?_⟩
  rcases h.2 with hn | ⟨g, cap, cur, hv, hb, hg, rest⟩
  · exact .inl hn
  · exact .inr ⟨g, cap, cur, hv, hb, k.whole (g := g) hg (fun hm => by have := hK g hm; omega), rest⟩
theorem owns_low {w : World} {base : Nat} {e : TypeId} {size n : Nat} {v : Value} {xs : List Value} (h : w.ownsRow base e size v n xs) {base' : Nat} (hb' : base' ≤ base) : w.ownsRow base' e size v n xs := by
  refine ⟨h.1, ?_⟩
  rcases h.2 with hn | ⟨g, cap, cur, hv, hb, rest⟩
  · exact .inl hn
  · exact .inr ⟨g, cap, cur, hv, by omega, rest⟩
theorem rows_owned {w : World} {base n cap : Nat} {a : Option Addr} {l : List Row} (hl : l.length = n) (h : w.ownsRow base 78 4 (.slice a n cap) n (flatR l)) : RowsAt w a l ∧ (a = none → cap = 0) := by
  rcases h.2 with ⟨hv, h0⟩ | ⟨g, cap', cur, hv, _⟩
  · simp only [Value.slice.injEq] at hv
    obtain ⟨rfl, rfl, rfl⟩ := hv
    refine ⟨fun i hi => by omega, fun _ => rfl⟩
  · simp only [Value.slice.injEq] at hv
    obtain ⟨rfl, _, rfl⟩ := hv
    subst hl
    exact ⟨rows_of_owns h, fun h => by cases h⟩

/-- The table's steps of a slice. -/
def StepsmIn (w : World) (a : Option Addr) (z : List Nat) : Prop :=
  ∀ i, i < z.length → ∃ x, ∃ kind ow : Int, ∃ u : Nat, ∃ b : Bool, a = some x ∧ x.block < w.heap.size ∧ -9223372036854775808 ≤ ow ∧ ow ≤ 9223372036854775807 ∧ u < 18446744073709551616 ∧
    w.cell? (x.add (i * 4)) = some (.int .i64 kind) ∧ w.cell? (x.add (i * 4 + 1)) = some (.int .i64 ow) ∧ w.cell? (x.add (i * 4 + 2)) = some (.int .u64 u) ∧ w.cell? (x.add (i * 4 + 3)) = some (.bool b)
theorem add_fieldm (x : Addr) (i j : Nat) (hj : 0 < j) : x.add (i + j) = ⟨(x.add i).block, (x.add i).off + j, none⟩ := by
  unfold Addr.add
  by_cases hi : i = 0
  · subst hi
    rw [if_neg (by omega), if_pos rfl]
    simp
  · rw [if_neg (by omega), if_neg hi]
    simp [Nat.add_assoc]

theorem upd_same (T : Nat → Nat × Nat × Nat) (o : Nat) {x : Nat × Nat × Nat} (h : T o = x) : upd T o x = T := by
  funext k
  unfold upd
  split
  · next e => rw [e, h]
  · rfl

/-- What holds at a round's head. -/
structure MacInv (w wr : World) (R D : Nat) (T : Nat → Nat × Nat × Nat) (l : List Row) (a : Option Addr) (n cap : Nat) : Prop where
  len : l.length = n
  tied : Tied T l
  dice : Dice wr D []
  mac : Mac wr R T
  own : wr.ownsRow (D + 1) 78 4 (.slice a n cap) n (flatR l)
  keeps : Keeps [] w wr

theorem MacInv.on {w wr wq : World} {R D n cap : Nat} {T : Nat → Nat × Nat × Nat} {l : List Row} {a : Option Addr} (h : MacInv w wr R D T l a n cap) (k : Keeps [] wr wq) : MacInv w wq R D T l a n cap :=
  ⟨h.len, h.tied, h.dice.keeps k (by simp), h.mac.keeps k (by simp), owns_keep h.own k (by simp), h.keeps.nil_trans k⟩

set_option maxRecDepth 8000 in
set_option maxHeartbeats 40000000 in
theorem macSteps_walk (a : Option Addr) (len cap : Nat) (z : List Nat) (hz : z.length = len) (w : World) (hin : StepsmIn w a z) :
    Calls Try.prog 9 #[.slice a len cap] w fun e w' => e = .returned (.bool true) ∧ Keeps [] w w' := by
  have HN := Aside.mk hin
  have HZ := Aside.mk hz
  clear hin hz
  by_cases hbig : 300 < len
  · as_aux_lemma =>
      go_enter Try.func9, Try.ntmps9
      go_wp2_with fail
      refine (awake21 _).mono ?_
      rintro e' w1 ⟨rfl, k1⟩
      go_wp2_with fail
      go_ret
      exact ⟨rfl, k1⟩
  · go_enter Try.func9, Try.ntmps9
    go_wp2_with fail
    refine (mNew _).mono ?_
    rintro e' w1 ⟨rfl, hm1, k1⟩
    have HM1 := Aside.mk hm1
    have HK1 := Aside.mk k1
    have HS1 : Aside (w.heap.size < w1.heap.size) := ⟨hm1.lt⟩
    clear hm1 k1
    go_wp2_with fail
    refine (dNew _).mono ?_
    rintro e' w2 ⟨rfl, hd2, k2⟩
    have HI2 : Aside (MacInv w w2 w.heap.size w1.heap.size (fun _ => (0, 0, 0)) [] none 0 0) := ⟨⟨rfl, Tied.nil, hd2, HM1.out.keeps k2 (by simp), World.ownsRow_nil _ _ _ _, HK1.out.nil_trans k2⟩⟩
    clear hd2 k2 HM1 HK1
    go_wp2_with fail
    obtain ⟨R, hR⟩ : ∃ R, R = w.heap.size := ⟨_, rfl⟩
    obtain ⟨D, hD⟩ : ∃ D, D = w1.heap.size := ⟨_, rfl⟩
    rw [← hR, ← hD] at HI2
    rw [← hD] at HS1
    simp only [← hR, ← hD]
    have HRD := Aside.mk (And.intro hR.symm HS1.out)
    clear hR hD HS1
    go_loopw [5, 6] (fun v5 v6 wr => ∃ (k n c : Nat) (aa : Option Addr), k ≤ len ∧ n ≤ k ∧ v6 = .int .i64 k ∧ v5 = .slice aa n c ∧ Aside (∃ T l, MacInv w wr R D T l aa n c)) (fun _ v6 _ => len - (intOf v6).toNat)
    case atStart => exact ⟨0, 0, 0, none, by omega, by omega, rfl, rfl, ⟨_, _, HI2.out⟩⟩
    case round =>
      obtain ⟨k, n, c, aa, hk, hnk, rfl, rfl, hq⟩ := hrel
      clear HI2
      by_cases hlt : k < len
      · obtain ⟨T, l, hinv⟩ := hq.out
        obtain ⟨x, kind, ow, u, b, rfl, hb', ho1, ho2, hu, hc0, hc1, hc2, hc3⟩ := HN.out k (by rw [HZ.out]; exact hlt)
        have d0 := hinv.keeps.cell hc0 (by simp)
        have d1 : wr.cell? ⟨(x.add (k * 4)).block, (x.add (k * 4)).off + 1, none⟩ = some (.int .i64 ow) := by rw [← add_fieldm x (k * 4) 1 (by omega)]; exact hinv.keeps.cell hc1 (by simp)
        have d2 : wr.cell? ⟨(x.add (k * 4)).block, (x.add (k * 4)).off + 2, none⟩ = some (.int .u64 u) := by rw [← add_fieldm x (k * 4) 2 (by omega)]; exact hinv.keeps.cell hc2 (by simp)
        have d3 : wr.cell? ⟨(x.add (k * 4)).block, (x.add (k * 4)).off + 3, none⟩ = some (.bool b) := by rw [← add_fieldm x (k * 4) 3 (by omega)]; exact hinv.keeps.cell hc3 (by simp)
        have HI := Aside.mk hinv
        clear hq hinv hc0 hc1 hc2 hc3 hb'
        go_upto_region 10 with (fail)
        have hsz : Aside (D < wr.heap.size) := ⟨HI.out.dice.lt⟩
        have HIa : Aside (MacInv w (wr.alloc (.cells #[.int .i64 kind, .int .i64 ow, .int .u64 u, .bool b] 73)) R D T l aa n c) := by
          have ka := (Keeps.refl [] wr).alloc (.cells #[.int .i64 kind, .int .i64 ow, .int .u64 u, .bool b] 73)
          exact ⟨⟨HI.out.len, HI.out.tied, HI.out.dice.keeps ka (by simp), HI.out.mac.keeps ka (by simp), owns_keep HI.out.own ka (by simp), HI.out.keeps.nil_trans ka⟩⟩
        have HS : Aside (Whole (wr.alloc (.cells #[.int .i64 kind, .int .i64 ow, .int .u64 u, .bool b] 73)) wr.heap.size 73 #[.int .i64 kind, .int .i64 ow, .int .u64 u, .bool b]) := ⟨Whole.new _ _ _⟩
        generalize wr.alloc (.cells #[.int .i64 kind, .int .i64 ow, .int .u64 u, .bool b] 73) = wa at HIa HS ⊢
        generalize wr.heap.size = S at HS hsz ⊢
        clear d0 d1 d2 d3 HI
        have s0 : wa.cell? ⟨S, 0, none⟩ = some (.int .i64 kind) := HS.out.cell 0
        have s1 : wa.cell? ⟨S, 1, none⟩ = some (.int .i64 ow) := HS.out.cell 1
        have s2 : wa.cell? ⟨S, 2, none⟩ = some (.int .u64 u) := HS.out.cell 2
        have s3 : wa.cell? ⟨S, 3, none⟩ = some (.bool b) := HS.out.cell 3
        obtain ⟨may, hmay⟩ : ∃ may : Bool, may = decide (0 ≤ ow ∧ ow ≤ 8) := ⟨_, rfl⟩
        have HMAY := Aside.mk hmay
        clear hmay
        go_cut [8] (fun v8 wc => v8 = .bool may ∧ wa = wc)
        case first =>
          by_cases hlo : 0 ≤ ow
          · by_cases hhi : ow ≤ 8
            · as_aux_lemma =>
                have e := HMAY.out
                rw [decide_eq_true (by omega)] at e
                subst e
                go_wp2_with fail
                go_meet
                exact ⟨rfl, rfl⟩
            · as_aux_lemma =>
                have e := HMAY.out
                rw [decide_eq_false (by omega)] at e
                subst e
                have hb8 : decide (ow ≤ 8) = false := decide_eq_false hhi
                clear hhi
                go_wp2_with fail
                go_meet
                exact ⟨rfl, rfl⟩
          · as_aux_lemma =>
              have e := HMAY.out
              rw [decide_eq_false (by omega)] at e
              subst e
              go_wp2_with fail
              go_meet
              exact ⟨rfl, rfl⟩
        case rest =>
        obtain ⟨rfl, rfl⟩ := hcut
        go_upto_block 2 with (fail)
        go_cut [5] (fun v5 wc => ∃ (n' c' : Nat) (aa' : Option Addr), n' ≤ k + 1 ∧ v5 = .slice aa' n' c' ∧ Aside (∃ T l, MacInv w wc R D T l aa' n' c'))
        case rest =>
          obtain ⟨n', c', aa', hn', rfl, hq'⟩ := hcut
          obtain ⟨T', l', hinv'⟩ := hq'.out
          have HIR := Aside.mk hinv'
          clear hinv' hq' s0 s1 s2 s3 HS HIa
          go_wp2_with fail
          go_loopw [16] (fun v16 wr => ∃ j : Nat, j ≤ n' ∧ v16 = .int .i64 j ∧ Aside (MacInv w wr R D (T') (l') aa' (n') c')) (fun v16 _ => n' - (intOf v16).toNat)
          case atStart => exact ⟨0, by omega, rfl, HIR⟩
          case round =>
            obtain ⟨j, hj, rfl, HJ⟩ := hrel
            have hra := rows_owned HJ.out.len HJ.out.own
            by_cases hjn : j < n'
            · as_aux_lemma =>
                obtain ⟨gj, hgj, c0, c1, c2, c3⟩ := hra.1 j (by rw [HJ.out.len]; exact hjn)
                obtain ⟨rj, hrj⟩ : ∃ rj, rj = (l')[j]'(by rw [HJ.out.len]; exact hjn) := ⟨_, rfl⟩
                rw [← hrj] at c0 c1 c2 c3
                have C58 : Aside (∀ m, Calls Try.prog 58 #[.pointer (some ⟨R, 0, none⟩), .int .i64 (rj.1 : Nat), .int .i64 (rj.2.1 : Nat), .int .u64 (rj.2.2.1 : Nat)] (wr.drewN m) fun r w' => r = .returned (.bool (known (T') (rj.1 : Nat) (rj.2.1 : Nat) rj.2.2.1)) ∧ wr.drewN m = w') :=
                  ⟨fun m => mKnows R _ _ _ _ _ (HJ.out.on ((Keeps.refl [] _).drewN m)).mac⟩
                have C59 : Aside (∀ m, Calls Try.prog 59 #[.slice aa' (n') c', .int .i64 (rj.1 : Nat), .int .i64 (rj.2.1 : Nat), .int .u64 (rj.2.2.1 : Nat)] (wr.drewN m) fun r w' => r = .returned (.bool (known (T') (rj.1 : Nat) (rj.2.1 : Nat) rj.2.2.1)) ∧ wr.drewN m = w') :=
                  ⟨fun m => by rw [← HJ.out.tied.any]; exact rKnows_calls _ _ _ _ HJ.out.len (by omega) _ _ _ _ (rows_owned HJ.out.len (HJ.out.on ((Keeps.refl [] _).drewN m)).own).1⟩
                generalize known (T') (rj.1 : Nat) (rj.2.1 : Nat) rj.2.2.1 = kj at C58 C59
                cases hgj
                clear hra hrj c3
                go_wp2_with fail
                go_quiet ((first | (go_at_call 58; exact Calls.quiet_of_same ((C58.out _).mono (fun _ _ h => ⟨h.1, h.2.symm⟩))) | (go_at_call 59; exact Calls.quiet_of_same ((C59.out _).mono (fun _ _ h => ⟨h.1, h.2.symm⟩)))))
                go_wp2
                go_roundw
                case rel => exact ⟨j + 1, by omega, by go_num, ⟨HJ.out.on ((Keeps.refl [] _).drewN _)⟩⟩
                case measure => simp [intOf]; omega
            · as_aux_lemma =>
                clear hra
                go_wp2
                go_roundw
                case rel => exact ⟨k + 1, n', c', aa', by omega, by omega, by go_num, rfl, ⟨_, _, HJ.out⟩⟩
                case measure => simp [intOf]; omega
        case first =>

          have hlen := HIa.out.len
          have HL := Aside.mk hlen
          clear hlen
          by_cases q2 : kind = 2
          · subst q2
            by_cases hout : ow < 0 ∨ 8 < ow
            · as_aux_lemma =>
                have HO := Aside.mk hout
                have hmy := HMAY.out
                rw [decide_eq_false (by omega)] at hmy
                subst hmy
                have hra := rows_owned HIa.out.len HIa.out.own
                have CR := Aside.mk (rRevoke_calls aa n c l HL.out (by omega) ow wa hra.1 hra.2)
                rw [HIa.out.tied.was_no HO.out, HIa.out.tied.rvk_no HO.out] at CR
                clear hra
                clear hout
                all_goals
                  go_wp2_with fail
                  refine (mRevoke_no R ow HO.out _).mono ?_
                  rintro e' w3 ⟨rfl, rfl⟩
                  go_wp2_with fail
                  refine CR.out.mono ?_
                  rintro e' w3 ⟨g3, c3', rfl, hown, k3⟩
                  have HI3 : Aside (MacInv w w3 R D T l (some ⟨g3, 0, none⟩) n c3') := ⟨⟨HL.out, HIa.out.tied, HIa.out.dice.keeps k3 (by simp), HIa.out.mac.keeps k3 (by simp), owns_low hown (HIa.out.dice.lt), HIa.out.keeps.nil_trans k3⟩⟩
                  clear hown k3 CR
                  go_wp2_with fail
                  go_meet
                  exact ⟨n, c3', (some ⟨g3, 0, none⟩), by omega, rfl, ⟨_, _, HI3.out⟩⟩
            · obtain ⟨o, rfl⟩ : ∃ o : Nat, ow = o := ⟨ow.toNat, by omega⟩
              have ho9 : o < 9 := by omega
              have hmy := HMAY.out
              rw [decide_eq_true (by omega)] at hmy
              subst hmy
              clear hout
              by_cases ht : (T o).2.2 = 0
              · as_aux_lemma =>
                  have hz := HIa.out.tied.zero o ho9 ht
                  have HZ2 := Aside.mk hz
                  have hra := rows_owned HIa.out.len HIa.out.own
                  have CR := Aside.mk (rRevoke_calls aa n c l HL.out (by omega) o wa hra.1 hra.2)
                  rw [show wasK l (o : Int) = false by rw [HIa.out.tied.was ho9, ht]; rfl] at CR
                  have htied := HIa.out.tied.revoke ho9
                  rw [upd_same T o (x := ((T o).1, 0, 0)) (Prod.ext rfl hz)] at htied
                  have HTI := Aside.mk htied
                  clear hra htied hz ht
                  go_wp2_with fail
                  refine (mRevoke_none R T o ho9 _ HIa.out.mac HZ2.out).mono ?_
                  rintro e' w3 ⟨rfl, rfl⟩
                  go_wp2_with fail
                  refine CR.out.mono ?_
                  rintro e' w3 ⟨g3, c3', rfl, hown, k3⟩
                  have HI3 : Aside (MacInv w w3 R D T (rvk l o) (some ⟨g3, 0, none⟩) n c3') := ⟨⟨by rw [rvk_len]; exact HL.out, HTI.out, HIa.out.dice.keeps k3 (by simp), HIa.out.mac.keeps k3 (by simp), owns_low hown (HIa.out.dice.lt), HIa.out.keeps.nil_trans k3⟩⟩
                  clear hown k3 CR
                  go_wp2_with fail
                  go_meet
                  exact ⟨n, c3', (some ⟨g3, 0, none⟩), by omega, rfl, ⟨_, _, HI3.out⟩⟩
              · as_aux_lemma =>
                  have HT0 := Aside.mk ht
                  have HW0 : Aside (wasK l (o : Int) = true) := ⟨by rw [HIa.out.tied.was ho9]; simp [ht]⟩
                  have HTI := Aside.mk (HIa.out.tied.revoke ho9)
                  clear ht
                  go_wp2_with fail
                  refine (mRevoke_yes R T o ho9 _ HIa.out.mac HT0.out).mono ?_
                  rintro e' w3 ⟨rfl, hm3, k3⟩
                  have t1 := k3.cell s1 (by have := hsz.out; have := HRD.out; simp; omega)
                  have own3 := owns_keep HIa.out.own k3 (by have := HRD.out; intro y hy; simp at hy; omega)
                  have hra := rows_owned HL.out own3
                  have CR := Aside.mk (rRevoke_calls aa n c l HL.out (by omega) o w3 hra.1 hra.2)
                  rw [HW0.out] at CR
                  have HD3 := Aside.mk (HIa.out.dice.keeps k3 (by have := HRD.out; simp; omega))
                  have HM3 := Aside.mk hm3
                  have HK3 := Aside.mk (HIa.out.keeps.trans k3 (fun y hy => .inr (by have := HRD.out; simp at hy; omega)))
                  clear hra own3 hm3 k3 s0 s1 s2 s3 HS
                  go_wp2_with fail
                  refine CR.out.mono ?_
                  rintro e' w4 ⟨g3, c3', rfl, hown, k4⟩
                  have HI3 : Aside (MacInv w w4 R D (upd T o ((T o).1, 0, 0)) (rvk l o) (some ⟨g3, 0, none⟩) n c3') := ⟨⟨by rw [rvk_len]; exact HL.out, HTI.out, HD3.out.keeps k4 (by simp), HM3.out.keeps k4 (by simp), owns_low hown (HD3.out.lt), HK3.out.nil_trans k4⟩⟩
                  clear hown k4 CR t1
                  go_wp2_with fail
                  go_meet
                  exact ⟨n, c3', (some ⟨g3, 0, none⟩), by omega, rfl, ⟨_, _, HI3.out⟩⟩
          · by_cases q1 : kind = 1
            · subst q1
              clear q2
              by_cases hout : ow < 0 ∨ 8 < ow
              · have HO := Aside.mk hout
                have hmy := HMAY.out
                rw [decide_eq_false (by omega)] at hmy
                subst hmy
                clear hout
                cases b
                · as_aux_lemma =>
                    all_goals
                      go_wp2_with fail
                      refine (mIssue_no R ow HO.out _ _).mono ?_
                      rintro e' w3 ⟨rfl, rfl⟩
                      go_wp2_with fail
                      refine (dTake_no D _ HIa.out.dice).mono ?_
                      rintro e' w3 ⟨rfl, rfl⟩
                      go_wp2
                      go_roundw
                      case rel => exact ⟨k + 1, n, c, aa, by omega, by omega, by go_num, rfl, ⟨_, _, HIa.out⟩⟩
                      case measure => simp [intOf]; omega
                · as_aux_lemma =>
                    all_goals
                      go_wp2_with fail
                      refine (dPut_yes D [] u _ HIa.out.dice (by simp)).mono ?_
                      rintro e' w3 ⟨rfl, hd3, k3⟩
                      have t1 := k3.cell s1 (by have := hsz.out; simp; omega)
                      have HD3 := Aside.mk hd3
                      have HK3 := Aside.mk k3
                      clear hd3 k3 s0 s1 s2 s3 HS
                      go_wp2_with fail
                      refine (mIssue_no R ow HO.out _ _).mono ?_
                      rintro e' w4 ⟨rfl, rfl⟩
                      go_wp2_with fail
                      refine (dTake_yes D [] u _ HD3.out).mono ?_
                      rintro e' w4 ⟨rfl, hd4, k4⟩
                      have kk := HK3.out.trans k4 (fun y hy => .inl hy)
                      have HI4 : Aside (MacInv w w4 R D T l aa n c) := ⟨⟨HL.out, HIa.out.tied, hd4, HIa.out.mac.keeps kk (by have := HRD.out; simp; omega), owns_keep HIa.out.own kk (by intro y hy; simp at hy; omega), HIa.out.keeps.trans kk (fun y hy => .inr (by have := HRD.out; simp at hy; omega))⟩⟩
                      clear kk hd4 k4 t1 HD3 HK3
                      go_wp2
                      go_roundw
                      case rel => exact ⟨k + 1, n, c, aa, by omega, by omega, by go_num, rfl, ⟨_, _, HI4.out⟩⟩
                      case measure => simp [intOf]; omega
              · obtain ⟨o, rfl⟩ : ∃ o : Nat, ow = o := ⟨ow.toNat, by omega⟩
                have ho9 : o < 9 := by omega
                have hmy := HMAY.out
                rw [decide_eq_true (by omega)] at hmy
                subst hmy
                clear hout
                cases b
                · as_aux_lemma =>
                    go_wp2_with fail
                    refine (mIssue_none R o ho9 D _ HIa.out.dice).mono ?_
                    rintro e' w3 ⟨rfl, rfl⟩
                    go_wp2
                    go_roundw
                    case rel => exact ⟨k + 1, n, c, aa, by omega, by omega, by go_num, rfl, ⟨_, _, HIa.out⟩⟩
                    case measure => simp [intOf]; omega
                · as_aux_lemma =>
                    have hcn := HIa.out.tied.cn o ho9
                    have hle := cnt_le l (o : Int)
                    rw [HL.out] at hle
                    have HTB : Aside ((T o).1 < 1000000) := ⟨by omega⟩
                    have HTI := Aside.mk (HIa.out.tied.issue ho9 u)
                    have HCN := Aside.mk hcn
                    clear hcn hle
                    go_wp2_with fail
                    refine (dPut_yes D [] u _ HIa.out.dice (by simp)).mono ?_
                    rintro e' w3 ⟨rfl, hd3, k3⟩
                    have t1 := k3.cell s1 (by have := hsz.out; simp; omega)
                    have t2 := k3.cell s2 (by have := hsz.out; simp; omega)
                    have t3 := k3.cell s3 (by have := hsz.out; simp; omega)
                    have HD3 := Aside.mk hd3
                    have HK3 := Aside.mk k3
                    have HM3 := Aside.mk (HIa.out.mac.keeps k3 (by have := HRD.out; simp; omega))
                    clear hd3 k3 s0 s1 s2 s3 HS
                    go_wp2_with fail
                    refine (mIssue_yes R T o ho9 D u [] hu (by have := HRD.out; omega) _ HM3.out HD3.out HTB.out).mono ?_
                    rintro e' w4 ⟨rfl, hm4, hd4, k4⟩
                    have t1 := k4.cell t1 (by have := hsz.out; have := HRD.out; simp; omega)
                    have t2 := k4.cell t2 (by have := hsz.out; have := HRD.out; simp; omega)
                    have t3 := k4.cell t3 (by have := hsz.out; have := HRD.out; simp; omega)
                    have kk := HK3.out.more (L' := [R, D]) (fun y hy => .inl (by simp at hy ⊢; exact .inr hy)) |>.trans k4 (fun y hy => .inl hy)
                    have own4 := owns_keep HIa.out.own kk (by have := HRD.out; intro y hy; simp at hy; omega)
                    have hra := rows_owned HL.out own4
                    have CI := Aside.mk (rIssue_calls aa n c l HL.out (by omega) o ho9 u hu w4 hra.1 hra.2)
                    have HK4 := Aside.mk (HIa.out.keeps.trans kk (fun y hy => .inr (by have := HRD.out; simp at hy; omega)))
                    have HD4 := Aside.mk hd4
                    have HM4 := Aside.mk hm4
                    obtain ⟨E, hE⟩ : ∃ E, E = (T o).1 + 1 := ⟨_, rfl⟩
                    obtain ⟨G, hG⟩ : ∃ G, G = tagOf u E o := ⟨_, rfl⟩
                    have hlast : issue l o u = rvk l o ++ [(o, E, G, true)] := by rw [issue, ← HCN.out, ← hE, ← hG]
                    simp only [← hE]
                    simp only [← hG]
                    have hT5 : Tied (upd T o (E, E, G)) (issue l o u) := by have := HTI.out; rw [← hE] at this; rw [← hG] at this; exact this
                    have hM5 : Mac w4 R (upd T o (E, E, G)) := by have := HM4.out; rw [← hE] at this; rw [← hG] at this; exact this
                    have HT5 := Aside.mk hT5
                    have HM5 := Aside.mk hM5
                    have HLA := Aside.mk hlast
                    clear hra own4 hm4 hd4 k4 kk HK3 HD3 HM3 HM4 hE hG hlast hT5 hM5
                    go_wp2_with fail
                    refine CI.out.mono ?_
                    rintro e' w5 ⟨g3, c3', rfl, hown, k5⟩
                    have hx : ∀ q, q < 4 → w5.cell? ⟨g3, n * 4 + q, none⟩ = (rowCells (o, E, G, true))[q]? := by
                      intro q hq
                      rw [hown.cellAt (n * 4 + q) (by omega), flatR_get, show (n * 4 + q) / 4 = n by omega, show (n * 4 + q) % 4 = q by omega, HLA.out, List.getElem?_append_right (by rw [rvk_len, HL.out]; exact Nat.le_refl _), rvk_len, HL.out, Nat.sub_self]
                      rfl
                    have x0 : w5.cell? ⟨g3, n * 4, none⟩ = some (.int .i64 (o : Nat)) := hx 0 (by omega)
                    have x1 : w5.cell? ⟨g3, n * 4 + 1, none⟩ = some (.int .i64 (E : Nat)) := hx 1 (by omega)
                    have x2 : w5.cell? ⟨g3, n * 4 + 2, none⟩ = some (.int .u64 (G : Nat)) := hx 2 (by omega)
                    have x3 : w5.cell? ⟨g3, n * 4 + 3, none⟩ = some (.bool true) := hx 3 (by omega)
                    have HI5 : Aside (MacInv w w5 R D (upd T o (E, E, G)) (issue l o u) (some ⟨g3, 0, none⟩) (n + 1) c3') := ⟨⟨by rw [HLA.out, List.length_append, rvk_len, HL.out]; rfl, HT5.out, HD4.out.keeps k5 (by simp), HM5.out.keeps k5 (by simp), owns_low hown HD4.out.lt, HK4.out.nil_trans k5⟩⟩
                    have HI6 := Aside.mk (HI5.out.on ((Keeps.refl [] w5).alloc (.cells #[.int .i64 (o : Nat), .int .i64 (E : Nat), .int .u64 (G : Nat), .bool true] 78)))
                    clear hown k5 CI hx t1 t2 t3
                    go_wp2_with fail
                    go_meet
                    exact ⟨n + 1, c3', (some ⟨g3, 0, none⟩), by omega, rfl, ⟨_, _, HI6.out⟩⟩
            · have b1 : (kind == 1) = false := by rw [beq_eq_false_iff_ne]; exact q1
              have b2 : (kind == 2) = false := by rw [beq_eq_false_iff_ne]; exact q2
              clear q1 q2
              have C56 : Aside (∀ m, Calls Try.prog 56 #[.pointer (some ⟨R, 0, none⟩), .int .i64 ow] (wa.drewN m) fun r w' => r = .returned (.int .i64 (cnt l ow : Nat)) ∧ wa.drewN m = w') := ⟨by
                intro m
                have hi := HIa.out.on ((Keeps.refl [] _).drewN m)
                by_cases hout : ow < 0 ∨ 8 < ow
                · rw [hi.tied.cnt_no hout]
                  exact mEpoch_no R ow hout _
                · obtain ⟨o, rfl⟩ : ∃ o : Nat, ow = o := ⟨ow.toNat, by omega⟩
                  rw [← hi.tied.cn o (by omega)]
                  exact mEpoch R T o (by omega) _ hi.mac⟩
              have C57 : Aside (∀ m, Calls Try.prog 57 #[.slice aa n c, .int .i64 ow] (wa.drewN m) fun r w' => r = .returned (.int .i64 (cnt l ow : Nat)) ∧ wa.drewN m = w') :=
                ⟨fun m => rEpoch_calls aa n c l HL.out (by omega) ow _ (rows_owned HL.out (HIa.out.on ((Keeps.refl [] _).drewN m)).own).1⟩
              generalize cnt l ow = E at C56 C57
              have C58 : Aside (∀ m, Calls Try.prog 58 #[.pointer (some ⟨R, 0, none⟩), .int .i64 ow, .int .i64 (E : Nat), .int .u64 (u : Nat)] (wa.drewN m) fun r w' => r = .returned (.bool (known T ow (E : Nat) u)) ∧ wa.drewN m = w') :=
                ⟨fun m => mKnows R _ _ _ _ _ (HIa.out.on ((Keeps.refl [] _).drewN m)).mac⟩
              have C59 : Aside (∀ m, Calls Try.prog 59 #[.slice aa n c, .int .i64 ow, .int .i64 (E : Nat), .int .u64 (u : Nat)] (wa.drewN m) fun r w' => r = .returned (.bool (known T ow (E : Nat) u)) ∧ wa.drewN m = w') :=
                ⟨fun m => by rw [← HIa.out.tied.any]; exact rKnows_calls _ _ _ _ HL.out (by omega) _ _ _ _ (rows_owned HL.out (HIa.out.on ((Keeps.refl [] _).drewN m)).own).1⟩
              generalize known T ow (E : Nat) u = kk at C58 C59
              have HII : Aside (∀ m, MacInv w (wa.drewN m) R D T l aa n c) := ⟨fun m => HIa.out.on ((Keeps.refl [] _).drewN m)⟩
              go_wp2_with fail
              all_goals
                go_quiet ((first | (go_at_call 56; exact Calls.quiet_of_same ((C56.out _).mono (fun _ _ h => ⟨h.1, h.2.symm⟩))) | (go_at_call 57; exact Calls.quiet_of_same ((C57.out _).mono (fun _ _ h => ⟨h.1, h.2.symm⟩))) | (go_at_call 58; exact Calls.quiet_of_same ((C58.out _).mono (fun _ _ h => ⟨h.1, h.2.symm⟩))) | (go_at_call 59; exact Calls.quiet_of_same ((C59.out _).mono (fun _ _ h => ⟨h.1, h.2.symm⟩)))))
                clear C56 C57 C58 C59
                go_wp2_with fail
                go_meet
                exact ⟨n, c, aa, by omega, rfl, ⟨_, _, HII.out _⟩⟩
      · as_aux_lemma =>
          go_wp2_with fail
          refine (awake21 _).mono ?_
          rintro e' w3 ⟨rfl, k3⟩
          go_wp2_with fail
          go_ret
          obtain ⟨T, l, hinv⟩ := hq.out
          exact ⟨rfl, hinv.keeps.nil_trans k3⟩
end Go.Proofs.Ythcjcgagbpfkpaa

/- DiceSteps: steps of putting in and taking, one behind the other. -/
import Derived.Test.YthcjcgagbpfkpaaDiceMixes
import Derived.Test.YthcjcgagbpfkpaaNums
import Derived.Test.YthcjcgagbpfkpaaTail
namespace Go.Proofs.Ythcjcgagbpfkpaa
set_option linter.unusedVariables false
set_option linter.unusedSimpArgs false
open Go.RowKit

def u64s (q : List Nat) : List Value := q.map fun (n : Nat) => Value.int .u64 n
theorem info22 : (Try.prog.info? 22).map (fun i => (i.zero, i.size, i.bytes)) = some (some (.int .u64 0), 1, 8) := by kernel_rfl
theorem u64s_len (q : List Nat) : (u64s q).length = q.length := by simp [u64s]
theorem u64s_snoc (q : List Nat) (x : Nat) : u64s q ++ [Value.int .u64 x] = u64s (q ++ [x]) := by simp [u64s]

theorem add_field (x : Addr) (i j : Nat) (hj : 0 < j) : x.add (i + j) = ⟨(x.add i).block, (x.add i).off + j, none⟩ := by
  unfold Addr.add
  by_cases hi : i = 0
  · subst hi
    rw [if_neg (by omega), if_pos rfl]
    simp
  · rw [if_neg (by omega), if_neg hi]
    simp [Nat.add_assoc]

/-- The steps of a slice. -/
def StepsIn (w : World) (a : Option Addr) (z : List (Bool × Nat)) : Prop :=
  ∀ i, i < z.length → ∃ x b n, a = some x ∧ x.block < w.heap.size ∧ n < 18446744073709551616 ∧ w.cell? (x.add (i * 2)) = some (.bool b) ∧ w.cell? (x.add (i * 2 + 1)) = some (.int .u64 (n : Nat))

set_option maxRecDepth 8000 in
set_option maxHeartbeats 8000000 in
theorem diceSteps_walk (a : Option Addr) (len cap : Nat) (z : List (Bool × Nat)) (hz : z.length = len) (w : World) (hin : StepsIn w a z) :
    Calls Try.prog 4 #[.slice a len cap] w fun e w' => e = .returned (.bool true) ∧ Keeps [] w w' := by
  obtain ⟨i0, hi, hz0, hz1, hz2⟩ := info_parts info22
  have HN := Aside.mk hin
  have HZ := Aside.mk hz
  clear hin hz
  by_cases hbig : 2000 < len
  · go_enter Try.func4, Try.ntmps4
    go_wp2_with fail
    refine (awake20 _).mono ?_
    rintro e' w1 ⟨rfl, k1⟩
    go_wp2_with fail
    go_ret
    exact ⟨rfl, k1⟩
  · go_enter Try.func4, Try.ntmps4
    go_wp2_with fail
    refine (dNew _).mono ?_
    rintro e' w1 ⟨rfl, hd1, k1⟩
    have HD := Aside.mk hd1
    have HK := Aside.mk k1
    clear hd1 k1
    go_wp2_with fail
    go_loopw [4, 5] (fun v4 v5 wr => ∃ (k n c : Nat) (lo : Option Addr), k ≤ len ∧ v5 = .int .i64 k ∧ v4 = .slice lo n c ∧ n ≤ 64 ∧
        Aside (∃ q : List Nat, q.length = n ∧ Dice wr w.heap.size q ∧ Tail wr (w.heap.size + 1) 22 lo c (u64s q)) ∧ Aside (Keeps [] w wr)) (fun _ v5 _ => len - (intOf v5).toNat)
    case atStart => exact ⟨0, 0, 0, none, by omega, rfl, rfl, by omega, ⟨[], rfl, HD.out, Tail.nil _ _ _⟩, HK⟩
    case round =>
      obtain ⟨k, n, c, lo, hk, rfl, rfl, hn64, hq, hw⟩ := hrel
      by_cases hlt : k < len
      · obtain ⟨x, b, u, rfl, hb, hu, hc0, hc1⟩ := HN.out k (by rw [HZ.out]; exact hlt)
        have d0 := hw.out.cell hc0 (by simp)
        have d1 := hw.out.cell hc1 (by simp)
        have d2 : wr.cell? ⟨(x.add (k * 2)).block, (x.add (k * 2)).off + 1, none⟩ = some (.int .u64 (u : Nat)) := by rw [← add_field x (k * 2) 1 (by omega)]; exact d1
        have hsz : Aside (w.heap.size ≤ wr.heap.size) := ⟨hw.out.size⟩
        cases b
        · by_cases h64 : n < 64
          · obtain ⟨q, hql, hdi, htl⟩ := hq.out
            have HQ := Aside.mk hql
            have HT := Aside.mk htl
            have HDI := Aside.mk hdi
            clear hq htl hdi hc0 hc1 hql
            go_wp2_with fail
            refine (dPut_yes _ _ u _ HDI.out (by rw [HQ.out]; exact h64)).mono ?_
            rintro e' w2 ⟨rfl, hd2, k2⟩
            have HD2 := Aside.mk hd2
            have HW2 := Aside.mk (hw.out.trans k2 (fun y hy => .inr (by simp at hy; omega)))
            have HT2 := Aside.mk (HT.out.keeps k2 (fun y hy => by simp at hy; omega))
            have HS2 := Aside.mk hd2.lt
            have d1 := k2.cell d1 (by rw [add_block]; simp; omega)
            have d2 := k2.cell d2 (by simp only [add_block]; simp; omega)
            have hb1 : ((n : Int) < 64) := by omega
            clear hd2 k2 HT HDI hw hsz d0 h64
            go_wp2_with (at_builtin; refine wpList_append_tail _ rfl _ _ 42 rfl (w.heap.size + 1) 22 i0 (.int .u64 0) Try.underlying42 hi hz0 hz1 rfl lo n c (u64s q) rfl ?c1 (HT2.out.alloc _) ⟨w2.heap.size, 0, none⟩ 1 (.int .u64 (u : Nat)) rfl ?c2 rfl ?c3 ?c4 ?c5 ?_)
            case c1 => rw [u64s_len]; exact HQ.out
            case c2 => exact (Whole.new _ _ _).cell 0
            case c3 => unfold maxLen; omega
            case c4 => rw [hz2]; omega
            case c5 => have := HS2.out; simp; omega
            intro lo' c' w3 ht3 hb3
            rw [u64s_snoc] at ht3
            have HW3 := Aside.mk ((HW2.out.alloc (.cells #[.int .u64 (u : Nat)] 22)).then_below hb3 (by omega))
            have hd3 : Dice w3 w.heap.size (q ++ [u]) := by
              obtain ⟨cs, first, hd⟩ := HD2.out
              exact ⟨cs, first, { hd with blk := (hb3.block _ (by omega)).trans (hd.blk.alloc _) }⟩
            have HD3 := Aside.mk hd3
            have HT3 := Aside.mk ht3
            clear ht3 hb3 hd3 HD2 HW2 HT2
            go_wp2_with fail
            refine (dLeft _ _ _ HD3.out).mono ?_
            rintro e' w4 ⟨rfl, rfl⟩
            have hql2 : ((q ++ [u]).length : Int) = (n : Int) + 1 := by simp [HQ.out]
            rw [hql2]
            clear hql2
            go_wp2
            go_roundw
            case rel => exact ⟨k + 1, n + 1, c', lo', by omega, by go_num, by go_num, by omega, ⟨q ++ [u], by simp [HQ.out], HD3.out, HT3.out⟩, HW3⟩
            case measure => simp [intOf]; omega
          · obtain ⟨q, hql, hdi, htl⟩ := hq.out
            have HQ := Aside.mk hql
            have HT := Aside.mk htl
            have HDI := Aside.mk hdi
            clear hq htl hdi hc0 hc1 hql
            go_wp2_with fail
            refine (dPut_full _ _ u _ HDI.out (by rw [HQ.out]; omega)).mono ?_
            rintro e' w2 ⟨rfl, rfl⟩
            go_wp2_with fail
            refine (dLeft _ _ _ HDI.out).mono ?_
            rintro e' w4 ⟨rfl, rfl⟩
            have hql2 : (q.length : Int) = (n : Int) := by simp [HQ.out]
            rw [hql2]
            clear hql2
            go_wp2
            go_roundw
            case rel => exact ⟨k + 1, n, c, lo, by omega, by go_num, rfl, by omega, ⟨q, HQ.out, HDI.out, HT.out⟩, hw⟩
            case measure => simp [intOf]; omega
        · rcases Nat.eq_zero_or_pos n with rfl | hpos
          · obtain ⟨q, hql, hdi, htl⟩ := hq.out
            obtain rfl : q = [] := List.eq_nil_of_length_eq_zero hql
            clear hql
            have HT := Aside.mk htl
            have HDI := Aside.mk hdi
            clear hq htl hdi hc0 hc1
            go_wp2_with fail
            refine (dTake_no _ _ HDI.out).mono ?_
            rintro e' w1 ⟨rfl, rfl⟩
            go_wp2_with fail
            refine (dLeft _ _ _ HDI.out).mono ?_
            rintro e' w4 ⟨rfl, rfl⟩
            go_wp2
            go_roundw
            case rel => exact ⟨k + 1, 0, c, lo, by omega, by go_num, rfl, by omega, ⟨[], rfl, HDI.out, HT.out⟩, hw⟩
            case measure => simp [intOf]; omega
          · obtain ⟨q, hql, hdi, htl⟩ := hq.out
            obtain ⟨y, r, rfl⟩ : ∃ y r, q = y :: r := by
              match q, hql with
              | y :: r, _ => exact ⟨y, r, rfl⟩
              | [], h => simp at h; omega
            obtain ⟨m, rfl⟩ : ∃ m, n = m + 1 := ⟨n - 1, by omega⟩
            have HQ : Aside (r.length = m) := ⟨by simpa using hql⟩
            obtain ⟨g, off, rfl, hcell, hcp, hcase⟩ := htl.head
            have HDI := Aside.mk hdi
            have hg : Aside (w.heap.size < g) := by
              rcases htl with ⟨h, _⟩ | ⟨g', off', cur, h1, h2, _⟩
              · cases h
              · cases h1
                exact ⟨by omega⟩
            clear hq htl hdi hc0 hc1 hql
            go_wp2_with fail
            refine (dTake_yes _ _ _ _ HDI.out).mono ?_
            rintro e' w2 ⟨rfl, hd2, k2⟩
            have HD2 := Aside.mk hd2
            have HW2 := Aside.mk (hw.out.trans k2 (fun y hy => .inr (by simp at hy; omega)))
            have hcell2 := k2.cell hcell (by have := hg.out; simp; omega)
            have HC : Aside ((c = 1 ∧ Tail w2 (w.heap.size + 1) 22 (some ⟨g, off, none⟩) (c - 1) (u64s r)) ∨ (1 < c ∧ Tail w2 (w.heap.size + 1) 22 (some ⟨g, off + 1, none⟩) (c - 1) (u64s r))) := ⟨by
              rcases hcase with ⟨h1, h2⟩ | ⟨h1, h2⟩
              · exact .inl ⟨h1, h2.keeps k2 (fun y hy => by simp at hy; omega)⟩
              · exact .inr ⟨h1, h2.keeps k2 (fun y hy => by simp at hy; omega)⟩⟩
            clear hd2 k2 HDI hw hcase hcell d0 d1 d2
            obtain ⟨m', hm'⟩ : ∃ m' : Nat, m' = c - 1 := ⟨_, rfl⟩
            rcases HC.out with ⟨hc1, ht⟩ | ⟨hc1, ht⟩
            all_goals
              have HT := Aside.mk ht
              clear ht HC
            · subst hc1
              go_wp2_with fail
              refine (dLeft _ _ _ HD2.out).mono ?_
              rintro e' w4 ⟨rfl, rfl⟩
              rw [HQ.out]
              go_wp2
              go_roundw
              case rel => exact ⟨k + 1, m, 0, _, by omega, by go_num, rfl, by omega, ⟨r, HQ.out, HD2.out, HT.out⟩, HW2⟩
              case measure => simp [intOf]; omega
            · obtain ⟨c, rfl⟩ : ∃ c', c = c' + 2 := ⟨c - 2, by omega⟩
              go_wp2_with fail
              refine (dLeft _ _ _ HD2.out).mono ?_
              rintro e' w4 ⟨rfl, rfl⟩
              rw [HQ.out]
              go_wp2
              go_roundw
              case rel => exact ⟨k + 1, m, c + 1, _, by omega, by go_num, rfl, by omega, ⟨r, HQ.out, HD2.out, HT.out⟩, HW2⟩
              case measure => simp [intOf]; omega
      · go_wp2_with fail
        refine (awake20 _).mono ?_
        rintro e' w1 ⟨rfl, k1⟩
        go_wp2_with fail
        go_ret
        exact ⟨rfl, hw.out.nil_trans k1⟩
end Go.Proofs.Ythcjcgagbpfkpaa

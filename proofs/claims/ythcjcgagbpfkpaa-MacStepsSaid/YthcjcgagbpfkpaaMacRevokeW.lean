/- ref21.Revoke: the walk. -/
import Derived.Test.YthcjcgagbpfkpaaMacRevoke
namespace Go.Proofs.Ythcjcgagbpfkpaa
set_option linter.unusedVariables false
set_option linter.unusedSimpArgs false
open Go.RowKit

theorem set_same {α : Type} {l : List α} {k : Nat} {x : α} (h : l[k]? = some x) : l.set k x = l := by
  apply List.ext_getElem?
  intro i
  rw [List.getElem?_set]
  by_cases hk : k = i
  · subst hk
    rw [if_pos rfl, if_pos (List.getElem?_eq_some_iff.1 h).1, h]
  · rw [if_neg hk]

set_option maxRecDepth 8000 in
set_option maxHeartbeats 4000000 in
theorem rRevoke_calls (a : Option Addr) (len cap : Nat) (l : List Row) (hl : l.length = len) (hlen : len ≤ 100000) (o : Int) (w : World) (h : RowsAt w a l) (hcap : a = none → cap = 0) :
    Calls Try.prog 55 #[.slice a len cap, .int .i64 o] w fun e w' => ∃ g cap', e = .returned (.tuple #[.slice (some ⟨g, 0, none⟩) len cap', .bool (wasK l o)]) ∧
      w'.ownsRow w.heap.size 78 4 (.slice (some ⟨g, 0, none⟩) len cap') len (flatR (rvk l o)) ∧ Keeps [] w w' := by
  obtain ⟨i0, hi, hz0, hz1, hz2⟩ := info_parts info78
  have HR := Aside.mk h
  have HL := Aside.mk hl
  clear h hl
  rcases a with _ | x
  · obtain rfl : cap = 0 := hcap rfl
    have hl0 : l = [] := by
      match l, HR, HL with
      | [], _, _ => rfl
      | r :: l', HR, _ =>
        obtain ⟨g, hg, _⟩ := HR.out 0 (by simp)
        cases hg
    subst hl0
    have hlen0 : len = 0 := by have := HL.out; simpa using this.symm
    subst hlen0
    clear HR HL hcap
    go_enter Try.func55, Try.ntmps55
    go_wp2_with fail
    go_loop [7, 8] (fun v7 v8 => v8 = .int .i64 0 ∧ v7 = .bool false) (fun _ _ => 0)
    case atStart => exact ⟨rfl, rfl⟩
    case round =>
      obtain ⟨rfl, rfl⟩ := hrel
      go_wp2
      go_ret2
      exact ⟨_, _, rfl, World.ownsRow_lit w #[] 0 (Nat.le_refl _) (by decide) rfl, (Keeps.refl _ _).alloc _⟩
  · clear hcap
    have hR1 : RowsAt (w.alloc (.cells #[] 78)) (some x) l := by
      intro i hi
      obtain ⟨g, hg, c0, c1, c2, c3⟩ := HR.out i hi
      have k := (Keeps.refl [] w).alloc (.cells #[] 78)
      exact ⟨g, hg, k.cell c0 (by simp), k.cell c1 (by simp), k.cell c2 (by simp), k.cell c3 (by simp)⟩
    have HR1 := Aside.mk hR1
    clear hR1
    go_enter Try.func55, Try.ntmps55
    go_wp2_with (at_builtin; refine wpList_append_own _ rfl _ _ 71 rfl w.heap.size 78 i0 (.agg #[.int .i64 0, .int .i64 0, .int .u64 0, .bool false]) 4 32 Try.underlying71 hi hz0 hz1 hz2 rfl (by decide) _ _ _ rfl (World.ownsRow_lit w #[] 0 (Nat.le_refl _) (by decide) rfl) x len cap (flatR l) rfl ?cl ?cn ?c1 ?c3 ?c4 ?c5 ?_)
    case cl => rw [flatR_len, HL.out]
    case cn => exact rows_news HR1.out
    case c1 => exact rows_one l
    case c3 => unfold maxLen; omega
    case c4 => omega
    case c5 => simp
    intro v1 w1 hown1 hg1 hnil
    rcases hown1.2 with ⟨hv, _⟩ | ⟨g, cap', cur, rfl, hbg, _⟩
    · exact absurd hv hnil
    have hgb : ∀ k, (Value.slice (some ⟨w.heap.size, 0, none⟩) 0 0).ownBlock = some k → w.heap.size ≤ k := by
      intro k e
      have : w.heap.size = k := by simpa [Value.ownBlock] using e
      omega
    have hk1 := ((Keeps.refl [] w).alloc (.cells #[] 78)).grown hg1 (fun k e => .inr (hgb k e))
    have HO1 : Aside (w1.ownsRow w.heap.size 78 4 (.slice (some ⟨g, 0, none⟩) len cap') len (flatR (rvk (l.take 0) o ++ l.drop 0))) := ⟨hown1⟩
    have HK1 := Aside.mk hk1
    clear hown1 hg1 hnil hk1 HR1 HR hgb
    go_wp2_with fail
    go_loopw [7, 8] (fun v7 v8 wr => ∃ (k : Nat) (b : Bool), k ≤ len ∧ v8 = .int .i64 k ∧ v7 = .bool b ∧ Aside (b = wasK (l.take k) o ∧ wr.ownsRow w.heap.size 78 4 (.slice (some ⟨g, 0, none⟩) len cap') len (flatR (rvk (l.take k) o ++ l.drop k)) ∧ Keeps [] w wr))
      (fun _ v8 _ => len - (intOf v8).toNat)
    case atStart => exact ⟨0, false, by omega, rfl, rfl, ⟨rfl, HO1.out, HK1.out⟩⟩
    case round =>
      obtain ⟨k, b, hk, rfl, rfl, hq⟩ := hrel
      by_cases hlt : k < len
      · have hkL : k < l.length := by rw [HL.out]; exact hlt
        have hat := rvk_at l o k hkL
        have hwt := was_take l o k hkL
        have hrt := rvk_take l o k hkL
        obtain ⟨⟨q0, q1, q2, q3⟩, hr⟩ : ∃ r, r = l[k] := ⟨_, rfl⟩
        rw [← hr] at hat hwt hrt
        have c : ∀ c, c < 4 → wr.cell? ⟨g, k * 4 + c, none⟩ = (rowCells (q0, q1, q2, q3))[c]? := by
          intro c hc
          rw [hq.out.2.1.cellAt (k * 4 + c) (by omega), flatR_get, show (k * 4 + c) / 4 = k by omega, show (k * 4 + c) % 4 = c by omega, hat]
          rfl
        have c0 : wr.cell? ⟨g, k * 4, none⟩ = some (.int .i64 (q0 : Nat)) := c 0 (by omega)
        have c3 : wr.cell? ⟨g, k * 4 + 3, none⟩ = some (.bool q3) := c 3 (by omega)
        have cz : ∀ j, wr.frozen? ⟨g, j, none⟩ = false := hq.out.2.1.frozenAt
        have hst := (hq.out.2.1.stored (k * 4 + 3) (.bool false)).1
        rw [flatR_set _ k _ hat] at hst
        have HQ := hq
        have HST := Aside.mk hst
        have HW := Aside.mk hwt
        have HRT := Aside.mk hrt
        have HAT := Aside.mk hat
        clear hq hst hwt hrt hat c hr hkL
        rw [← HQ.out.1] at HW
        by_cases h0 : (q0 : Int) = o
        · have b0 : ((q0 : Int) == o) = true := by rw [beq_iff_eq]; exact h0
          have HF : Aside (rvk (l.take (k + 1)) o ++ l.drop (k + 1) = (rvk (l.take k) o ++ l.drop k).set k (unk (q0, q1, q2, q3))) := ⟨by rw [HRT.out, if_pos h0]⟩
          have HB : Aside (wasK (l.take (k + 1)) o = (b || q3)) := ⟨by rw [HW.out]; simp [h0]⟩
          clear h0 HRT HW
          cases b
          · go_wp2
            go_roundw
            case rel => exact ⟨k + 1, q3, by omega, by go_num, by simp, ⟨by rw [HB.out]; rfl, by rw [HF.out]; exact HST.out, HQ.out.2.2.setCell (.inr hbg) _⟩⟩
            case measure => simp [intOf]; omega
          · go_wp2
            go_roundw
            case rel => exact ⟨k + 1, true, by omega, by go_num, by simp, ⟨by rw [HB.out]; rfl, by rw [HF.out]; exact HST.out, HQ.out.2.2.setCell (.inr hbg) _⟩⟩
            case measure => simp [intOf]; omega
        · have b0 : ((q0 : Int) == o) = false := by rw [beq_eq_false_iff_ne]; exact h0
          have HF : Aside (rvk (l.take (k + 1)) o ++ l.drop (k + 1) = rvk (l.take k) o ++ l.drop k) := ⟨by rw [HRT.out, if_neg h0, set_same HAT.out]⟩
          have HB : Aside (wasK (l.take (k + 1)) o = b) := ⟨by rw [HW.out]; simp [h0]⟩
          clear h0 HRT HW
          go_wp2
          go_roundw
          case rel => exact ⟨k + 1, b, by omega, by go_num, rfl, ⟨HB.out.symm, by rw [HF.out]; exact HQ.out.2.1, HQ.out.2.2⟩⟩
          case measure => simp [intOf]; omega
      · have hkl : k = len := by omega
        subst hkl
        have h1 : l.take k = l := List.take_of_length_le (by rw [HL.out]; exact Nat.le_refl _)
        have h2 : l.drop k = [] := List.drop_of_length_le (by rw [HL.out]; exact Nat.le_refl _)
        have h3 := hq.out
        rw [h1, h2, List.append_nil] at h3
        have H3 := Aside.mk h3
        clear h1 h2 h3 hq
        go_wp2
        go_ret2
        exact ⟨g, cap', by rw [← H3.out.1]; rfl, H3.out.2.1, H3.out.2.2⟩
end Go.Proofs.Ythcjcgagbpfkpaa

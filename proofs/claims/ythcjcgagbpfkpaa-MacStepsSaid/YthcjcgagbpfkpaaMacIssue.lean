/- ref21.Issue. -/
import Derived.Test.YthcjcgagbpfkpaaMacRevokeW
namespace Go.Proofs.Ythcjcgagbpfkpaa
set_option linter.unusedVariables false
set_option linter.unusedSimpArgs false
open Go.RowKit

theorem RowsAt.keeps {w w' : World} {a : Option Addr} {l : List Row} (h : RowsAt w a l) (k : Keeps [] w w') : RowsAt w' a l := by
  intro i hi
  obtain ⟨g, hg, c0, c1, c2, c3⟩ := h i hi
  exact ⟨g, hg, k.cell c0 (by simp), k.cell c1 (by simp), k.cell c2 (by simp), k.cell c3 (by simp)⟩

theorem owns_block' {w : World} {base : Nat} {e : TypeId} {size n : Nat} {v : Value} {xs : List Value} (h : w.ownsRow base e size v n xs) (k : Nat) (hk : v.ownBlock = some k) : base ≤ k := by
  rcases h.2 with ⟨rfl, _⟩ | ⟨g, cap, cur, rfl, hb, _⟩
  · simp [Value.ownBlock] at hk
  · have : g = k := by simpa [Value.ownBlock] using hk
    omega

def issue (l : List Row) (o n : Nat) : List Row := rvk l o ++ [(o, cnt l o + 1, tagOf n (cnt l o + 1) o, true)]

set_option maxRecDepth 8000 in
set_option maxHeartbeats 4000000 in
theorem rIssue_calls (a : Option Addr) (len cap : Nat) (l : List Row) (hl : l.length = len) (hlen : len ≤ 10000) (o : Nat) (ho : o < 9) (n : Nat) (hn : n < 18446744073709551616) (w : World) (h : RowsAt w a l) (hcap : a = none → cap = 0) :
    Calls Try.prog 53 #[.slice a len cap, .int .i64 o, .int .u64 n] w fun r w' => ∃ g cap', r = .returned (.slice (some ⟨g, 0, none⟩) (len + 1) cap') ∧
      w'.ownsRow w.heap.size 78 4 (.slice (some ⟨g, 0, none⟩) (len + 1) cap') (len + 1) (flatR (issue l o n)) ∧ Keeps [] w w' := by
  obtain ⟨i0, hi, hz0, hz1, hz2⟩ := info_parts info78
  obtain ⟨c, hc⟩ : ∃ c, c = cnt l o := ⟨_, rfl⟩
  have hcl : c ≤ len := by have := cnt_le l o; omega
  obtain ⟨t, ht⟩ : ∃ t, t = mixN n (256 * (c + 1) + o) := ⟨_, rfl⟩
  have htl : t < 18446744073709551616 := by rw [ht]; exact mixN_lt _ _
  have C1 := Aside.mk (fun w h => rRevoke_calls a len cap l hl (by omega) o w h hcap)
  have C2 := Aside.mk (fun w h => rEpoch_calls a len cap l hl (by omega) o w h)
  have C3 := Aside.mk (fun w => refMix_calls n (256 * (c + 1) + o) hn (by omega) w)
  rw [← hc] at C2
  rw [← ht, show ((256 * (c + 1) + o : Nat) : Int) = 256 * ((c : Int) + 1) + o by omega] at C3
  have HI : Aside (issue l o n = rvk l o ++ [(o, c + 1, max t 1, true)]) := ⟨by rw [issue, tagOf, ← hc, ht]⟩
  have HR := Aside.mk h
  clear h hc ht hl hcap
  go_enter Try.func53, Try.ntmps53
  go_wp2_with fail
  refine (C1.out _ HR.out).mono ?_
  rintro e' w1 ⟨g, cap', rfl, hown, k1⟩
  have HO := Aside.mk hown
  have HK := Aside.mk k1
  have HR1 := Aside.mk (HR.out.keeps k1)
  clear hown k1
  go_wp2_with fail
  refine (C2.out _ HR1.out).mono ?_
  rintro e' w2 ⟨rfl, rfl⟩
  go_wp2_with fail
  refine (C3.out _).mono ?_
  rintro e' w2 ⟨rfl, rfl⟩
  clear C1 C2 C3 HR1
  obtain ⟨T, hT⟩ : ∃ T, T = max t 1 := ⟨_, rfl⟩
  have hcase : (t = 0 ∧ T = 1) ∨ (0 < t ∧ T = t) := by omega
  rw [← hT] at HI
  clear hT
  rcases hcase with ⟨rfl, rfl⟩ | ⟨htp, rfl⟩
  · go_wp2_with (at_builtin; refine wpList_append_own _ rfl _ _ 71 rfl w.heap.size 78 i0 (.agg #[.int .i64 0, .int .i64 0, .int .u64 0, .bool false]) 4 32 Try.underlying71 hi hz0 hz1 hz2 rfl (by decide) _ _ _ rfl (HO.out.alloc _) ⟨w1.heap.size, 0, none⟩ 1 1 (rowCells (o, c + 1, 1, true)) rfl rfl (World.news_of_block (heap_alloc_new _ _)) ?c2 ?c3 ?c4 ?c5 ?_)
    case c2 => intro u hu; exact rows_one [(o, c + 1, 1, true)] u (by simpa [flatR] using hu)
    case c3 => unfold maxLen; omega
    case c4 => omega
    case c5 => have := HK.out.size; simp; omega
    intro v1 w2 hown1 hg1 hnil
    rcases hown1.2 with ⟨hv, _⟩ | ⟨g2, cap2, cur, rfl, hbg, _⟩
    · exact absurd hv hnil
    have hgb : ∀ k, (Value.slice (some ⟨g, 0, none⟩) len cap').ownBlock = some k → w.heap.size ≤ k := fun k e => owns_block' HO.out k e
    have hk2 := (HK.out.alloc (.cells (rowCells (o, c + 1, 1, true)).toArray 78)).grown hg1 (fun k e => .inr (hgb k e))
    rw [flatR_snoc, ← HI.out] at hown1
    have HO2 := Aside.mk hown1
    have HK2 := Aside.mk hk2
    clear hown1 hg1 hnil hk2 hgb
    go_wp2
    go_ret
    exact ⟨g2, cap2, rfl, HO2.out, HK2.out⟩
  · have hb : ((T : Int) == 0) = false := by rw [beq_eq_false_iff_ne]; omega
    go_wp2_with (at_builtin; refine wpList_append_own _ rfl _ _ 71 rfl w.heap.size 78 i0 (.agg #[.int .i64 0, .int .i64 0, .int .u64 0, .bool false]) 4 32 Try.underlying71 hi hz0 hz1 hz2 rfl (by decide) _ _ _ rfl (HO.out.alloc _) ⟨w1.heap.size, 0, none⟩ 1 1 (rowCells (o, c + 1, T, true)) rfl rfl (World.news_of_block (heap_alloc_new _ _)) ?c2 ?c3 ?c4 ?c5 ?_)
    case c2 => intro u hu; exact rows_one [(o, c + 1, T, true)] u (by simpa [flatR] using hu)
    case c3 => unfold maxLen; omega
    case c4 => omega
    case c5 => have := HK.out.size; simp; omega
    intro v1 w2 hown1 hg1 hnil
    rcases hown1.2 with ⟨hv, _⟩ | ⟨g2, cap2, cur, rfl, hbg, _⟩
    · exact absurd hv hnil
    have hgb : ∀ k, (Value.slice (some ⟨g, 0, none⟩) len cap').ownBlock = some k → w.heap.size ≤ k := fun k e => owns_block' HO.out k e
    have hk2 := (HK.out.alloc (.cells (rowCells (o, c + 1, T, true)).toArray 78)).grown hg1 (fun k e => .inr (hgb k e))
    rw [flatR_snoc, ← HI.out] at hown1
    have HO2 := Aside.mk hown1
    have HK2 := Aside.mk hk2
    clear hown1 hg1 hnil hk2 hgb
    go_wp2
    go_ret
    exact ⟨g2, cap2, rfl, HO2.out, HK2.out⟩
end Go.Proofs.Ythcjcgagbpfkpaa

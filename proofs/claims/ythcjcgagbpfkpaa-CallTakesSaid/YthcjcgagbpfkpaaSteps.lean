/- ref34.steps: what steps of reading take of some bytes. -/
import Derived.Test.YthcjcgagbpfkpaaNext
import Derived.Test.YthcjcgagbpfkpaaNums
import Derived.OwnWalk
import Derived.Deep.AppendLies
namespace Go.Proofs.Ythcjcgagbpfkpaa
set_option linter.unusedVariables false
set_option linter.unusedSimpArgs false
open Go.RowKit

abbrev Got := (Nat × ByteArray) × (Nat × Nat)
def nextG (b : ByteArray) (st : Nat × Nat) (s : Int × Int) : Got :=
  if s.1 = 1 then (((rdNum b st).1, ⟨#[]⟩), (rdNum b st).2)
  else if s.1 = 2 then (((rdInt s.2 b st).1, ⟨#[]⟩), (rdInt s.2 b st).2)
  else if s.1 = 3 then ((0, (rdText s.2 b st).1), (rdText s.2 b st).2)
  else ((0, (rdRest b st).1), (rdRest b st).2)
def gotCells (g : Got) : List Value := [.int .u64 g.1.1, .string g.1.2, .int .i64 g.2.1, .int .i64 g.2.2]
def flatG (l : List Got) : List Value := l.flatMap gotCells
def runStep (b : ByteArray) (a : List Got × (Nat × Nat)) (s : Int × Int) : List Got × (Nat × Nat) := (a.1 ++ [nextG b a.2 s], (nextG b a.2 s).2)
def runG (b : ByteArray) (L : List (Int × Int)) : List Got × (Nat × Nat) := L.foldl (runStep b) ([], (0, 0))

theorem flatG_len (l : List Got) : (flatG l).length = l.length * 4 := by
  induction l with
  | nil => rfl
  | cons a l ih =>
    simp only [flatG, List.flatMap_cons, List.length_append, List.length_cons] at ih ⊢
    rw [ih]
    simp [gotCells]
    omega
theorem flatG_snoc (l : List Got) (g : Got) : flatG l ++ gotCells g = flatG (l ++ [g]) := by simp [flatG]
theorem runG_len (b : ByteArray) (L : List (Int × Int)) : (runG b L).1.length = L.length := by
  unfold runG
  have : ∀ (L : List (Int × Int)) (a : List Got × (Nat × Nat)), (L.foldl (runStep b) a).1.length = a.1.length + L.length := by
    intro L
    induction L with
    | nil => intro a; rfl
    | cons s L ih => intro a; simp only [List.foldl_cons, ih, runStep, List.length_append, List.length_cons, List.length_nil]; omega
  rw [this]
  simp
theorem runG_next (b : ByteArray) (L : List (Int × Int)) (k : Nat) (hk : k < L.length) : runG b (L.take (k + 1)) = runStep b (runG b (L.take k)) L[k] := by
  unfold runG
  rw [List.take_add_one, List.getElem?_eq_getElem hk, List.foldl_append]
  rfl
theorem nextG_in {b : ByteArray} {st : Nat × Nat} (s : Int × Int) (h : RdIn b st) : RdIn b (nextG b st s).2 := by
  unfold nextG
  split
  · exact rdNum_in h
  · split
    · exact rdInt_in _ h
    · split
      · exact rdText_in _ h
      · exact rdRest_in h

theorem next_calls (b : ByteArray) (hb : b.size ≤ 1152921504606846976) (n0 : Nat) (t0 : ByteArray) (st : Nat × Nat) (hp : RdIn b st) (s : Int × Int) (hm : s.2 ≤ 9223372036854775807) (w : World) :
    Calls Try.prog 79 #[.string b, .agg #[.int .u64 n0, .string t0, .int .i64 st.1, .int .i64 st.2], .agg #[.int .i64 s.1, .int .i64 s.2]] w fun r w' => r = .returned (.agg (gotCells (nextG b st s)).toArray) ∧ Keeps [] w w' := by
  obtain ⟨p, e⟩ := st
  obtain ⟨kind, most⟩ := s
  unfold nextG
  by_cases q1 : kind = 1
  · subst q1
    rw [if_pos rfl]
    exact next_num_at hb hp rfl
  · rw [if_neg q1]
    by_cases q2 : kind = 2
    · subst q2
      rw [if_pos rfl]
      exact next_int_at hb hp hm rfl
    · rw [if_neg q2]
      by_cases q3 : kind = 3
      · subst q3
        rw [if_pos rfl]
        exact next_text_at hb hp hm rfl
      · rw [if_neg q3]
        exact next_rest_at hb hp q1 q2 q3 rfl

theorem info123 : (Try.prog.info? 123).map (fun i => (i.zero, i.size, i.bytes)) = some (some (.agg #[.int .u64 0, .string ⟨#[]⟩, .int .i64 0, .int .i64 0]), 4, 40) := by kernel_rfl

/-- Steps as they lie. -/
def StepsAt (w : World) (x : Addr) (L : List (Int × Int)) : Prop :=
  ∀ i (h : i < L.length), w.cell? (x.add (i * 2)) = some (.int .i64 L[i].1) ∧ w.cell? ⟨(x.add (i * 2)).block, (x.add (i * 2)).off + 1, none⟩ = some (.int .i64 L[i].2) ∧ L[i].2 ≤ 9223372036854775807

theorem owns_keeps {w w' : World} {base : Nat} {e : TypeId} {size n : Nat} {v : Value} {xs : List Value} {K : List Nat} (h : w.ownsRow base e size v n xs) (k : Keeps K w w') (hK : ∀ y ∈ K, y < base) : w'.ownsRow base e size v n xs := by
  refine ⟨h.1, ?_⟩
  rcases h.2 with hn | ⟨g, cap, cur, hv, hb, hg, rest⟩
  · exact .inl hn
  · exact .inr ⟨g, cap, cur, hv, hb, k.whole (g := g) hg (fun hm => by have := hK g hm; omega), rest⟩
theorem owns_base {w : World} {base : Nat} {e : TypeId} {size n : Nat} {v : Value} {xs : List Value} (h : w.ownsRow base e size v n xs) {base' : Nat} (hb' : base' ≤ base) : w.ownsRow base' e size v n xs := by
  refine ⟨h.1, ?_⟩
  rcases h.2 with hn | ⟨g, cap, cur, hv, hb, rest⟩
  · exact .inl hn
  · exact .inr ⟨g, cap, cur, hv, by omega, rest⟩
theorem owns_block {w : World} {base : Nat} {e : TypeId} {size n : Nat} {v : Value} {xs : List Value} (h : w.ownsRow base e size v n xs) (k : Nat) (hk : v.ownBlock = some k) : base ≤ k := by
  rcases h.2 with ⟨rfl, _⟩ | ⟨g, cap, cur, rfl, hb, _⟩
  · simp [Value.ownBlock] at hk
  · have : g = k := by simpa [Value.ownBlock] using hk
    omega

set_option maxRecDepth 8000 in
set_option maxHeartbeats 4000000 in
theorem steps_calls (b : ByteArray) (hb : b.size ≤ 1152921504606846976) (x : Addr) (len cap : Nat) (L : List (Int × Int)) (hL : L.length = len) (h100 : len ≤ 100) (w : World) (hx : x.block < w.heap.size) (hin : StepsAt w x L) :
    Calls Try.prog 110 #[.string b, .slice (some x) len cap] w fun e w' => ∃ v, e = .returned (.tuple #[v, .bool (decide ((runG b L).2.2 = 0 ∧ (runG b L).2.1 = b.size))]) ∧
      w'.ownsRow w.heap.size 123 4 v len (flatG (runG b L).1) ∧ Keeps [] w w' := by
  obtain ⟨i0, hi, hz0, hz1, hz2⟩ := info_parts info123
  have HN := Aside.mk hin
  have HL := Aside.mk hL
  have HX := Aside.mk hx
  have HB := Aside.mk hb
  clear hin hL hx
  go_enter Try.func110, Try.ntmps110
  go_wp2_with fail
  go_loopw [6, 8] (fun v6 v8 wr => ∃ (k p e : Nat) (vo : Value), k ≤ len ∧ v8 = .int .i64 k ∧ vo = v6 ∧ Aside (∃ n t, RdIn b (p, e) ∧ (runG b (L.take k)).2 = (p, e) ∧ Whole wr w.heap.size 123 #[.int .u64 (n : Nat), .string t, .int .i64 p, .int .i64 e] ∧
      wr.ownsRow (w.heap.size + 1) 123 4 vo k (flatG (runG b (L.take k)).1) ∧ Keeps [] w wr)) (fun _ v8 _ => len - (intOf v8).toNat)
  case atStart => exact ⟨0, 0, 0, _, by omega, rfl, rfl, ⟨0, ⟨#[]⟩, RdIn.zero b, rfl, Whole.new _ _ _, World.ownsRow_nil _ _ _ _, (Keeps.refl _ _).alloc _⟩⟩
  case round =>
    obtain ⟨k, p, e, vo, hk, rfl, rfl, hq⟩ := hrel
    obtain ⟨n, t, hri, hrun, hg, hown, hw⟩ := hq.out
    clear hq
    have g0 : wr.cell? ⟨w.heap.size, 0, none⟩ = some (.int .u64 n) := hg.cell 0
    have g1 : wr.cell? ⟨w.heap.size, 1, none⟩ = some (.string t) := hg.cell 1
    have g2 : wr.cell? ⟨w.heap.size, 2, none⟩ = some (.int .i64 p) := hg.cell 2
    have g3 : wr.cell? ⟨w.heap.size, 3, none⟩ = some (.int .i64 e) := hg.cell 3
    have HG := Aside.mk hg
    have HI := Aside.mk hri
    have HR := Aside.mk hrun
    have HO := Aside.mk hown
    have HW := Aside.mk hw
    clear hg hri hrun hown hw
    by_cases hlt : k < len
    · have hkL : k < L.length := by rw [HL.out]; exact hlt
      obtain ⟨hc0, hc1, hm⟩ := HN.out k hkL
      obtain ⟨s, hs⟩ : ∃ s, s = L[k] := ⟨_, rfl⟩
      have hnx := runG_next b L k hkL
      rw [← hs] at hc0 hc1 hm hnx
      have d0 := HW.out.cell hc0 (by simp)
      have d1 := HW.out.cell hc1 (by simp)
      have CN := Aside.mk (fun (wx : World) => next_calls b HB.out n t (p, e) HI.out s hm wx)
      have hin' := nextG_in s HI.out
      rw [runStep, HR.out] at hnx
      obtain ⟨G, hG⟩ : ∃ G, G = nextG b (p, e) s := ⟨_, rfl⟩
      rw [← hG] at CN hin' hnx
      obtain ⟨⟨v, t'⟩, ⟨p', e'⟩⟩ := G
      have HNX := Aside.mk hnx
      have HIN := Aside.mk hin'
      clear hc0 hc1 hs hG hnx hin' hkL
      dsimp only [gotCells] at CN
      go_wp2_with fail
      go_still_tail 6, (by kernel_rfl)
      change wpList _ _ _ _ _ wr.drew
      have HGd : Aside (Whole wr.drew w.heap.size 123 #[.int .u64 (n : Nat), .string t, .int .i64 p, .int .i64 e]) := HG
      have HOd : Aside (wr.drew.ownsRow (w.heap.size + 1) 123 4 vo k (flatG (runG b (L.take k)).1)) := HO
      have HWd : Aside (Keeps [] w wr.drew) := ⟨HW.out.drew⟩
      generalize wr.drew = w2 at HGd HOd HWd ⊢
      clear g0 g1 g2 g3 d0 d1 HG HO HW
      go_wp2_with fail
      refine (CN.out _).mono ?_
      rintro r1 w3 ⟨rfl, k3⟩
      have hg3 := k3.whole HGd.out (by simp)
      have g0 : w3.cell? ⟨w.heap.size, 0, none⟩ = some (.int .u64 n) := hg3.cell 0
      have g1 : w3.cell? ⟨w.heap.size, 1, none⟩ = some (.string t) := hg3.cell 1
      have g2 : w3.cell? ⟨w.heap.size, 2, none⟩ = some (.int .i64 p) := hg3.cell 2
      have g3 : w3.cell? ⟨w.heap.size, 3, none⟩ = some (.int .i64 e) := hg3.cell 3
      have gz : ∀ j, w3.frozen? ⟨w.heap.size, j, none⟩ = false := hg3.frozen
      have HG3 := Aside.mk ((((hg3.set_ 0 (.int .u64 v)).set_ 1 (.string t')).set_ 2 (.int .i64 p')).set_ 3 (.int .i64 e'))
      clear hg3
      go_upto_region 7 with (fail)
      have kt := ((((Keeps.refl [w.heap.size] w3).setCell (.inl (by simp)) (.int .u64 v) (p := ⟨w.heap.size, 0, none⟩)).setCell (.inl (by simp)) (.string t') (p := ⟨w.heap.size, 1, none⟩)).setCell (.inl (by simp)) (.int .i64 p') (p := ⟨w.heap.size, 2, none⟩)).setCell (.inl (by simp)) (.int .i64 e') (p := ⟨w.heap.size, 3, none⟩)
      generalize ((((w3.setCell ⟨w.heap.size, 0, none⟩ (.int .u64 v)).setCell ⟨w.heap.size, 1, none⟩ (.string t')).setCell ⟨w.heap.size, 2, none⟩ (.int .i64 p')).setCell ⟨w.heap.size, 3, none⟩ (.int .i64 e')) = w4 at HG3 kt ⊢
      have hg4 : Whole w4 w.heap.size 123 #[.int .u64 (v : Nat), .string t', .int .i64 p', .int .i64 e'] := by have := HG3.out; simpa using this
      have HO4 := Aside.mk (owns_keeps (owns_keeps HOd.out k3 (by simp)) kt (by simp))
      have HW4 := Aside.mk ((HWd.out.nil_trans k3).trans kt (fun y hy => .inr (by simp at hy; omega)))
      have HS4 := Aside.mk hg4.lt
      clear g0 g1 g2 g3 gz HG3 kt k3 HGd HOd HWd CN
      have g0 : w4.cell? ⟨w.heap.size, 0, none⟩ = some (.int .u64 v) := hg4.cell 0
      have g1 : w4.cell? ⟨w.heap.size, 1, none⟩ = some (.string t') := hg4.cell 1
      have g2 : w4.cell? ⟨w.heap.size, 2, none⟩ = some (.int .i64 p') := hg4.cell 2
      have g3 : w4.cell? ⟨w.heap.size, 3, none⟩ = some (.int .i64 e') := hg4.cell 3
      have HG4 := Aside.mk hg4
      clear hg4
      go_wp2_with (at_builtin; refine wpList_append_own _ rfl _ _ 171 rfl (w.heap.size + 1) 123 i0 (.agg #[.int .u64 0, .string ⟨#[]⟩, .int .i64 0, .int .i64 0]) 4 40 Try.underlying171 hi hz0 hz1 hz2 rfl (by decide) _ _ _ rfl (HO4.out.alloc _) ⟨w4.heap.size, 0, none⟩ 1 1 [.int .u64 (v : Nat), .string t', .int .i64 p', .int .i64 e'] rfl rfl (World.news_of_block (heap_alloc_new _ _)) ?c2 ?c3 ?c4 ?c5 ?_)
      case c2 =>
        intro u hu
        simp at hu
        rcases hu with rfl | rfl | rfl | rfl <;> rfl
      case c3 => unfold maxLen; omega
      case c4 => omega
      case c5 => have := HS4.out; simp; omega
      intro v1 w5 hown1 hg1 _
      have hk5 := (HW4.out.alloc (.cells #[.int .u64 (v : Nat), .string t', .int .i64 p', .int .i64 e'] 123)).grown hg1 (fun k e => .inr (by have := owns_block HO4.out k e; omega))
      have hg5 : Whole w5 w.heap.size 123 #[.int .u64 (v : Nat), .string t', .int .i64 p', .int .i64 e'] := by
        refine (hg1.block w.heap.size (by have := HS4.out; simp; omega) ?_).trans (HG4.out.alloc _)
        intro h
        have := owns_block HO4.out _ h.symm
        omega
      have hown2 : w5.ownsRow (w.heap.size + 1) 123 4 v1 (k + 1) (flatG (runG b (L.take (k + 1))).1) := by
        rw [HNX.out, ← flatG_snoc]
        exact hown1
      have HO5 := Aside.mk hown2
      have HG5 := Aside.mk hg5
      have HW5 := Aside.mk hk5
      clear hown1 hown2 hg1 hg5 hk5 g0 g1 g2 g3
      go_wp2
      go_roundw
      case rel => exact ⟨k + 1, p', e', v1, by omega, by go_num, rfl, ⟨v, t', HIN.out, by rw [HNX.out], HG5.out, HO5.out, HW5.out⟩⟩
      case measure => simp [intOf]; omega
    · have hkl : k = len := by omega
      subst hkl
      have hrun2 : (runG b L).2 = (p, e) := by
        have := HR.out
        rwa [List.take_of_length_le (by rw [HL.out]; exact Nat.le_refl _)] at this
      have hown2 : wr.ownsRow w.heap.size 123 4 vo k (flatG (runG b L).1) := by
        have := HO.out
        rw [List.take_of_length_le (by rw [HL.out]; exact Nat.le_refl _)] at this
        exact owns_base this (by omega)
      have HR2 := Aside.mk hrun2
      have HO2 := Aside.mk hown2
      clear hrun2 hown2 HO HR
      have hcase : (e = 0 ∧ p = b.size) ∨ (e = 0 ∧ p ≠ b.size) ∨ e ≠ 0 := by omega
      have HC := Aside.mk hcase
      clear hcase
      rcases HC.out with ⟨rfl, rfl⟩ | ⟨rfl, hne⟩ | hne
      · go_wp2_with fail
        go_region
        go_wp2
        go_ret2
        refine ⟨vo, ?_, HO2.out, HW.out.drew⟩
        rw [HR2.out]
        simp
      · have bp : ((p : Int) == b.size) = false := by rw [beq_eq_false_iff_ne]; omega
        have HNE := Aside.mk hne
        clear hne
        go_wp2_with fail
        go_region
        go_wp2
        go_ret2
        refine ⟨vo, ?_, HO2.out, HW.out.drew⟩
        rw [HR2.out]
        simp [HNE.out]
      · have be : ((e : Int) == 0) = false := by rw [beq_eq_false_iff_ne]; omega
        have HNE := Aside.mk hne
        clear hne
        go_wp2_with fail
        go_region
        go_wp2
        go_ret2
        refine ⟨vo, ?_, HO2.out, HW.out.drew⟩
        rw [HR2.out]
        simp [HNE.out]
end Go.Proofs.Ythcjcgagbpfkpaa

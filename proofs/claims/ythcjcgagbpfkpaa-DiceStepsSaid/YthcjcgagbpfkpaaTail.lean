/- A queue in a slice of the function's own, from any place of its row: what is appended, what is cut off ahead. -/
import Derived.Test.YthcjcgagbpfkpaaKit
import Derived.OwnWalk
import Derived.Laws.AppendOwn
import Derived.Laws.CopyRow
namespace Go.Proofs.Ythcjcgagbpfkpaa
set_option linter.unusedVariables false
open Go.RowKit

def Tail (w : World) (base : Nat) (e : TypeId) (lo : Option Addr) (cap : Nat) (xs : List Value) : Prop :=
  (lo = none ∧ cap = 0 ∧ xs = []) ∨ ∃ g off cur, lo = some ⟨g, off, none⟩ ∧ base ≤ g ∧ Whole w g e cur ∧ xs.length ≤ cap ∧ cap ≤ maxLen ∧ off + cap ≤ cur.size ∧ ∀ i, i < xs.length → cur[off + i]? = xs[i]?

section
variable {w w' : World} {base : Nat} {e : TypeId} {lo : Option Addr} {cap : Nat} {xs : List Value}
theorem Tail.nil (w : World) (base : Nat) (e : TypeId) : Tail w base e none 0 [] := .inl ⟨rfl, rfl, rfl⟩
theorem Tail.keeps {L : List Nat} (h : Tail w base e lo cap xs) (k : Keeps L w w') (hL : ∀ x ∈ L, x < base) : Tail w' base e lo cap xs := by
  rcases h with h | ⟨g, off, cur, h1, h2, h3, h4⟩
  · exact .inl h
  · exact .inr ⟨g, off, cur, h1, h2, k.whole h3 (fun hm => by have := hL g hm; omega), h4⟩
theorem Tail.alloc (h : Tail w base e lo cap xs) (o : Obj) : Tail (w.alloc o) base e lo cap xs := by
  rcases h with h | ⟨g, off, cur, h1, h2, h3, h4⟩
  · exact .inl h
  · exact .inr ⟨g, off, cur, h1, h2, h3.alloc o, h4⟩
theorem Tail.drew (h : Tail w base e lo cap xs) : Tail w.drew base e lo cap xs := h
/-- What stands first, and what is left behind it. -/
theorem Tail.head {x : Value} (h : Tail w base e lo cap (x :: xs)) : ∃ g off, lo = some ⟨g, off, none⟩ ∧ w.cell? ⟨g, off, none⟩ = some x ∧ 0 < cap ∧
    ((cap = 1 ∧ Tail w base e (some ⟨g, off, none⟩) (cap - 1) xs) ∨ (1 < cap ∧ Tail w base e (some ⟨g, off + 1, none⟩) (cap - 1) xs)) := by
  rcases h with ⟨_, _, h⟩ | ⟨g, off, cur, h1, h2, h3, h4, h5, h6, h7⟩
  · cases h
  · have hl : xs.length + 1 ≤ cap := by simpa using h4
    have h0 := h7 0 (by simp)
    refine ⟨g, off, h1, by rw [h3.cell]; simpa using h0, by omega, ?_⟩
    by_cases hc : cap = 1
    · have hx : xs = [] := List.eq_nil_of_length_eq_zero (by omega)
      subst hx
      exact .inl ⟨hc, .inr ⟨g, off, cur, rfl, h2, h3, by simp, by omega, by omega, fun i hi => by simp at hi⟩⟩
    · refine .inr ⟨by omega, .inr ⟨g, off + 1, cur, rfl, h2, h3, by omega, by omega, by omega, fun i hi => ?_⟩⟩
      have := h7 (i + 1) (by simp; omega)
      rw [show off + 1 + i = off + (i + 1) by omega, this]
      simp
theorem Keeps.then_below {L : List Nat} {a b c : World} {B : Nat} (h : Keeps L a b) (k : Below B b c) (hB : a.heap.size ≤ B) : Keeps L a c :=
  ⟨k.os.trans h.os, k.tape.trans h.tape, k.output.trans h.output, Nat.le_trans h.size k.size, fun i hi hn => (k.block i (by omega)).trans (h.block i hi hn)⟩
end

section
variable {P : Program} (w : World)
theorem run_append_tail (base : Nat) (t ty e : TypeId) (i : TypeInfo) (z : Value) (ht : P.underlying t = some (.slice e)) (hi : P.info? e = some i) (hz : i.zero = some z)
    (hsize : i.size = 1) (hzs : z.cells.size = 1) (lo : Option Addr) (n cap : Nat) (xs : List Value) (hn : xs.length = n) (hT : Tail w base e lo cap xs)
    (ad : Addr) (c : Nat) (u : Value) (hu : w.cell? ad = some u) (h1 : u.oneCell' = true) (h63 : n + 1 ≤ maxLen) (hbytes : (n + 1) * i.bytes ≤ 140737488355328) (hbase : base ≤ w.heap.size) :
    ∃ lo' cap' w', (Builtin.append_ #[t, t] ty #[.slice lo n cap, .slice (some ad) 1 c]).run P w = .ok (.slice lo' (n + 1) cap') w' ∧ Tail w' base e lo' cap' (xs ++ [u]) ∧ Below base w w' := by
  have hsmall : n + 1 ≤ 9223372036854775807 := by simp only [maxLen] at h63; omega
  have hnews : ∀ j v, [u][j]? = some v → w.cell? (ad.add j) = some v := by
    intro j v hv
    match j with
    | 0 => simp at hv; subst hv; simpa [Addr.add] using hu
    | j + 1 => simp at hv
  have h1' : ∀ v ∈ [u], v.oneCell' = true := by
    intro v hv
    simp at hv
    subst hv
    exact h1
  have grown : ∀ old : Nat, Tail (w.drew.alloc (.cells (xs.toArray ++ [u].toArray ++ Builtin.zeroCells z.cells (grownCap w (n + 1) old e - (n + 1))) e)) base e
      (some ⟨w.heap.size, 0, none⟩) (grownCap w (n + 1) old e) (xs ++ [u]) ∧ Below base w (w.drew.alloc (.cells (xs.toArray ++ [u].toArray ++ Builtin.zeroCells z.cells (grownCap w (n + 1) old e - (n + 1))) e)) := by
    intro old
    have hge := grownCap_ge w (n + 1) old e
    have hcm := grownCap_le_maxLen w (n + 1) old e h63
    refine ⟨.inr ⟨w.heap.size, 0, _, rfl, hbase, heap_alloc_new w.drew _, by simp; omega, hcm, ?_, ?_⟩, ⟨rfl, rfl, rfl, by simp, fun k hk => Below.heap_alloc w.drew _ k (by simp; omega)⟩⟩
    · simp [size_zeroCells, hzs, hn]
      omega
    · intro k hk
      rw [Nat.zero_add, Array.getElem?_append_left (by simpa using hk)]
      simp
  rcases hT with ⟨rfl, rfl, rfl⟩ | ⟨g, off, cur, rfl, hbg, hg, hnc, hcm, hcs, hat⟩
  · simp at hn
    subst hn
    have hr := run_append_nil (P := P) w t ty e i z ht hi hz ad 1 c [u] (by simp [hsize]) hnews (by omega) (by omega) (by simp at hbytes; omega)
    have hgr := grown 0
    simp only [Nat.zero_add, List.nil_append, Array.empty_append] at hgr hr ⊢
    exact ⟨_, _, _, hr, hgr.1, hgr.2⟩
  · by_cases hroom : n + 1 ≤ cap
    · have hfit : off + n < cur.size := by omega
      have hf := run_firstCells_some (P := P) w i.size 1 ad 1 c [u] (by simp [hsize]) hnews
      have hst := run_storeCells_at P g (off + n) e [u] 0 cur w hg (by simp; omega) h1'
      have hadd : (⟨g, off, none⟩ : Addr).add n = ⟨g, off + n, none⟩ := by unfold Addr.add; split <;> simp_all
      simp only [Nat.add_zero] at hst
      refine ⟨some ⟨g, off, none⟩, cap, w.setRow g (cur.toList.take (off + n) ++ [u] ++ cur.toList.drop (off + n + [u].length)).toArray, ?_, ?_, ?_⟩
      · rw [hsize] at hf
        simp [Builtin.append_, run_underlying ht, sizeOf, typeInfo, hi, Builtin.lenOf, hroom, hf, hsize, hadd]
        simp at hst
        rw [hst]
        rfl
      · refine .inr ⟨g, off, _, rfl, hbg, setRow_heap w g cur _ e _ hg, by simp; omega, hcm, ?_, ?_⟩
        · simp
          omega
        · intro k hk
          simp at hk
          have hl : (cur.toList.take (off + n)).length = off + n := by simp; omega
          by_cases hkn : k < n
          · rw [List.getElem?_append_left (by omega), ← hat k (by omega)]
            simp only [List.getElem?_toArray]
            rw [List.append_assoc, List.getElem?_append_left (by omega), List.getElem?_take_of_lt (by omega)]
            simp
          · have hkn' : k = n := by omega
            subst hkn'
            simp only [List.getElem?_toArray]
            rw [List.append_assoc, List.getElem?_append_right (by omega), hl, Nat.sub_self, List.getElem?_append_left (by simp), List.getElem?_append_right (by omega), hn, Nat.sub_self]
      · exact ⟨rfl, rfl, rfl, by simp, fun k hk => setRow_other w g k _ (by omega)⟩
    · have holds : ∀ j v, xs[j]? = some v → w.cell? ((⟨g, off, none⟩ : Addr).add j) = some v := by
        intro j v hv
        have hj : j < xs.length := (List.getElem?_eq_some_iff.1 hv).1
        have hadd : (⟨g, off, none⟩ : Addr).add j = ⟨g, off + j, none⟩ := by unfold Addr.add; split <;> simp_all
        rw [hadd, hg.cell, hat j hj, hv]
      have hr := run_append_grow (P := P) w t ty e i z ht hi hz ⟨g, off, none⟩ n cap xs (by simp [hsize, hn]) holds ad 1 c [u] (by simp [hsize]) hnews (by omega) (by omega) (growslice_fits (by omega) hbytes)
      have hgr := grown cap
      exact ⟨_, _, _, hr, hgr.1, hgr.2⟩

theorem wpList_append_tail {ops : Array Oper} {rest : List Oper} {o : Oper} {a : Act} {Q : Exit → Act → World → Prop} (hgd : o.guard = none) (s x : Operand) (t : TypeId)
    (ho : o.op = .call { callee := .builtin .append, args := #[s, x], argTypes := #[t, t] })
    (base : Nat) (e : TypeId) (i : TypeInfo) (z : Value) (ht : P.underlying t = some (.slice e)) (hi : P.info? e = some i) (hz : i.zero = some z)
    (hsize : i.size = 1) (hzs : z.cells.size = 1) (lo : Option Addr) (n cap : Nat) (xs : List Value) (hs : a.eval s = .slice lo n cap) (hn : xs.length = n) (hT : Tail w base e lo cap xs)
    (ad : Addr) (c : Nat) (u : Value) (hx : a.eval x = .slice (some ad) 1 c) (hu : w.cell? ad = some u) (h1 : u.oneCell' = true) (h63 : n + 1 ≤ maxLen) (hbytes : (n + 1) * i.bytes ≤ 140737488355328) (hbase : base ≤ w.heap.size)
    (h : ∀ lo' cap' w', Tail w' base e lo' cap' (xs ++ [u]) → Below base w w' → wpList P ops Q rest (a.put o.dst (.slice lo' (n + 1) cap')) w') : wpList P ops Q (o :: rest) a w := by
  refine wpList_plain hgd fun _ hK => ?_
  obtain ⟨lo', cap', w', hr, h2, h3⟩ := run_append_tail (P := P) w base t o.type e i z ht hi hz hsize hzs lo n cap xs hn hT ad c u hu h1 h63 hbytes hbase
  unfold Oper.wp execOp
  simp only [ho, resolve, invoke, builtin, Sem.run_bind, Sem.run_pure, Result.andThen_ok, List.map_toArray, List.map_cons, List.map_nil, hs, hx, hr]
  exact hK _ _ (h lo' cap' w' h2 h3)
end
end Go.Proofs.Ythcjcgagbpfkpaa

/- Slices that came in, as they lie: numbers; rows of two, or four, cells. -/
import Derived.Test.YthcjcgagbpfkpaaKit
namespace Go.Proofs.Ythcjcgagbpfkpaa
set_option linter.unusedVariables false
open Go.RowKit

def nth (z : List Nat) (k : Nat) : Nat := z.getD k 0

/-- A slice of numbers as it lies: its elements. -/
def NumsIn (w : World) (a : Option Addr) (z : List Nat) : Prop :=
  (∀ n ∈ z, n < 18446744073709551616) ∧ ∀ i, i < z.length → ∃ x, a = some x ∧ w.cell? (x.add i) = some (.int .u64 (nth z i : Nat)) ∧ x.block < w.heap.size

theorem NumsIn.get {w w' : World} {a : Option Addr} {z : List Nat} (h : NumsIn w a z) (k : Keeps [] w w') {i : Nat} (hi : i < z.length) :
    ∃ x, a = some x ∧ w'.cell? (x.add i) = some (.int .u64 (nth z i : Nat)) ∧ x.block < w.heap.size := by
  obtain ⟨x, e, hc, hb⟩ := h.2 i hi
  exact ⟨x, e, k.cell hc (by simp), hb⟩


theorem lt_of_cell {w : World} {p : Addr} {v : Value} (h : w.cell? p = some v) : p.block < w.heap.size := by
  rcases Nat.lt_or_ge p.block w.heap.size with hlt | hge
  · exact hlt
  · simp [World.cell?, Array.getElem?_eq_none hge] at h
theorem add_block (x : Addr) (i : Nat) : (x.add i).block = x.block := by
  unfold Addr.add
  split <;> rfl

/-- A slice of rows of k cells as it lies: its rows, each a list of cells. -/
def RowsIn (w : World) (k : Nat) (a : Option Addr) (z : List (List Value)) : Prop :=
  ∀ i, i < z.length → ∃ x, a = some x ∧ x.block < w.heap.size ∧ ∀ j v, (z.getD i [])[j]? = some v → w.cell? (x.add (i * k + j)) = some v

theorem RowsIn.get {w w' : World} {k : Nat} {a : Option Addr} {z : List (List Value)} (h : RowsIn w k a z) (kp : Keeps [] w w') {i : Nat} (hi : i < z.length) :
    ∃ x, a = some x ∧ x.block < w.heap.size ∧ ∀ j v, (z.getD i [])[j]? = some v → w'.cell? (x.add (i * k + j)) = some v := by
  obtain ⟨x, e, hb, hc⟩ := h i hi
  exact ⟨x, e, hb, fun j v hv => kp.cell (hc j v hv) (by simp)⟩

end Go.Proofs.Ythcjcgagbpfkpaa

/- How slices of structs that came in are opened: each row's fields, as cells that are read. -/
import Derived.Test.YthcjcgagbpfkpaaOpen
import Derived.Test.YthcjcgagbpfkpaaNums
import Derived.Deep.Slices
import Derived.Deep.Fields
namespace Go.Proofs.Ythcjcgagbpfkpaa
set_option linter.unusedVariables false
open Go.ChangeShapes Go.WideShapes Go.ChangeAt Go.RowKit Go.Deep

section
variable {P : Program} {H : Type} {enc : TypeId × Value → H} {w : World} {base : Nat} {spare : Nat → Bool} {held : Bool} {r : Reach} {b0 : Nat}
theorem open_rows {t e : TypeId} {fs : Array Field} {v : Value} {d : DataW H} {p : List MemPlace} (ht : P.underlying t = some (.slice e)) (he : P.underlying e = some (.struct fs))
    (hone : oneCellFields P fs = true) (hC : P.cellsOf e = fs.size) (hv : Value.okWide P w r b0 t v) (h : DataW.Trod enc P w base spare held t v d p) :
    ∃ (a : Option Addr) (len cap : Nat), v = .slice a len cap ∧ ∀ i, i < len → ∃ x n, a = some x ∧
      ∀ (j : Nat) (f : Field), fs[j]? = some f → ∃ c y, w.cell? (x.add (i * fs.size + j)) = some c ∧ DataW.trod enc P w base spare held n f.type [c] = some y := by
  obtain ⟨a, len, cap, rfl⟩ := okWide_slice ht hv
  obtain ⟨fuel, hf⟩ := h
  refine ⟨a, len, cap, rfl, ?_⟩
  rcases open_slice ht hf with ⟨hcs, _⟩ | ⟨x, l, c, m, n, D, Pl, hcs, _, hl, _, hm, _, hat⟩
  · simp [Value.cells] at hcs
    obtain ⟨_, rfl, _⟩ := hcs
    intro i hi
    omega
  · simp [Value.cells] at hcs
    obtain ⟨rfl, rfl, rfl⟩ := hcs
    intro i hi
    have him : i < m := by
      rw [hm]
      split <;> omega
    obtain ⟨row, hrow, htr⟩ := hat i him
    obtain ⟨_, hlen, hcell⟩ := World.cells?_some hrow
    obtain ⟨ys, n', _, _, _, hyl, hg⟩ := DataW.trod_struct he htr
    refine ⟨x, n', rfl, fun j f hj => ?_⟩
    have hjs : j < fs.size := (Array.getElem?_eq_some_iff.1 hj).1
    obtain ⟨ho, hk⟩ := hone_of hone j f hj
    have h1 := hg j f hj
    rw [ho, hk, List.drop_eq_getElem_cons (by omega), List.getElem?_eq_getElem (by omega)] at h1
    have h2 := hcell j (by omega)
    rw [hC, add_add, List.getElem?_eq_getElem (by omega)] at h2
    exact ⟨_, _, h2, h1⟩

theorem bool_field {t : TypeId} {n : Nat} {c : Value} {y : DataW H × List MemPlace} (hu : P.underlying t = some .bool) (h : DataW.trod enc P w base spare held n t [c] = some y) : ∃ b, c = .bool b := by
  obtain ⟨b, e0, _⟩ := DataW.trod_bool hu h
  simp at e0
  exact ⟨b, e0⟩
end
end Go.Proofs.Ythcjcgagbpfkpaa

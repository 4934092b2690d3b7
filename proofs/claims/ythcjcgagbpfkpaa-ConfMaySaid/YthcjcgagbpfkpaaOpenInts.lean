/- How slices of numbers with a sign that came in are opened. -/
import Derived.Test.YthcjcgagbpfkpaaOpen
import Derived.Test.YthcjcgagbpfkpaaNums
import Derived.Test.YthcjcgagbpfkpaaConfMay
import Derived.ChangeSlices
namespace Go.Proofs.Ythcjcgagbpfkpaa
set_option linter.unusedVariables false
open Go.ChangeShapes Go.WideShapes Go.ChangeAt Go.RowKit Go.Deep

section
variable {P : Program} {H : Type} {enc : TypeId × Value → H} {w : World} {base : Nat} {spare : Nat → Bool} {held : Bool} {r : Reach} {b0 : Nat}
theorem open_inums {t e : TypeId} {v : Value} {d : DataW H} {p : List MemPlace} (ht : P.underlying t = some (.slice e)) (he : P.underlying e = some (.int .i64)) (hc : P.cellsOf e = 1)
    (hv : Value.okWide P w r b0 t v) (h : DataW.Trod enc P w base spare held t v d p) :
    ∃ (a : Option Addr) (len cap : Nat) (z : List Int), v = .slice a len cap ∧ z.length = len ∧ IntsIn w a z := by
  obtain ⟨a, len, cap, rfl⟩ := okWide_slice ht hv
  obtain ⟨fuel, hf⟩ := h
  rcases open_ints ht he hc hf with ⟨hcs, _⟩ | ⟨x, l, c, zs, hcs, _, hl, hm, hz, _, hcell, hwz⟩
  · simp [Value.cells] at hcs
    obtain ⟨rfl, rfl, rfl⟩ := hcs
    exact ⟨none, 0, 0, [], rfl, rfl, fun i hi => by simp at hi⟩
  · simp [Value.cells] at hcs
    obtain ⟨rfl, rfl, rfl⟩ := hcs
    have hlen : len ≤ zs.length := by
      rw [hz]
      split <;> omega
    refine ⟨some x, len, cap, zs.take len, rfl, by rw [List.length_take]; omega, fun i hi => ?_⟩
    have hi2 : i < len := by
      rw [List.length_take] at hi
      omega
    have hil : i < zs.length := by omega
    have hc := hcell i hil
    have hg : (zs.take len).getD i 0 = zs.getD i 0 := by
      rw [List.getD_eq_getElem?_getD, List.getD_eq_getElem?_getD, List.getElem?_take_of_lt hi2]
    have hb := lt_of_cell hc
    rw [add_block] at hb
    exact ⟨x, rfl, by rw [hc, hg], hb⟩
end
end Go.Proofs.Ythcjcgagbpfkpaa

/- How slices of numbers that came in are opened. -/
import Derived.Test.YthcjcgagbpfkpaaOpen
import Derived.Test.YthcjcgagbpfkpaaNums
import Derived.ChangeSlices
namespace Go.Proofs.Ythcjcgagbpfkpaa
set_option linter.unusedVariables false
open Go.ChangeShapes Go.WideShapes Go.ChangeAt Go.RowKit Go.Deep

section
variable {P : Program} {H : Type} {enc : TypeId × Value → H} {w : World} {base : Nat} {spare : Nat → Bool} {held : Bool} {r : Reach} {b0 : Nat}
theorem open_nums {t e : TypeId} {v : Value} {d : DataW H} {p : List MemPlace} (ht : P.underlying t = some (.slice e)) (he : P.underlying e = some (.int .u64)) (hc : P.cellsOf e = 1)
    (hv : Value.okWide P w r b0 t v) (h : DataW.Trod enc P w base spare held t v d p) :
    ∃ (a : Option Addr) (len cap : Nat) (z : List Nat), v = .slice a len cap ∧ z.length = len ∧ NumsIn w a z := by
  obtain ⟨a, len, cap, rfl⟩ := okWide_slice ht hv
  obtain ⟨fuel, hf⟩ := h
  rcases open_ints ht he hc hf with ⟨hcs, _⟩ | ⟨x, l, c, zs, hcs, _, hl, hm, hz, _, hcell, hwz⟩
  · simp [Value.cells] at hcs
    obtain ⟨rfl, rfl, rfl⟩ := hcs
    have hn : NumsIn w none [] := And.intro (fun n hn => by simp at hn) (fun i hi => by simp at hi)
    exact ⟨none, 0, 0, [], rfl, rfl, hn⟩
  · simp [Value.cells] at hcs
    obtain ⟨rfl, rfl, rfl⟩ := hcs
    have hlen : len ≤ zs.length := by
      rw [hz]
      split <;> omega
    have hn : NumsIn w (some x) ((zs.take len).map Int.toNat) := by
      refine And.intro ?_ ?_
      · intro n hn
        simp only [List.mem_map] at hn
        obtain ⟨y, hy, rfl⟩ := hn
        obtain ⟨h0, h1⟩ := bounds_u64 (hwz y (List.mem_of_mem_take hy))
        omega
      · intro i hi
        have hi2 : i < len := by
          rw [List.length_map, List.length_take] at hi
          omega
        have hil : i < zs.length := by omega
        have hc := hcell i hil
        have hg : zs.getD i 0 = zs[i] := by simp [List.getD, List.getElem?_eq_getElem hil]
        obtain ⟨h0, h1⟩ := bounds_u64 (hwz zs[i] (List.getElem_mem hil))
        have hb := lt_of_cell hc
        rw [add_block] at hb
        refine ⟨x, rfl, ?_, hb⟩
        rw [hc, hg]
        have : (nth ((zs.take len).map Int.toNat) i : Int) = zs[i] := by
          unfold nth
          rw [List.getD_eq_getElem?_getD, List.getElem?_map, List.getElem?_take_of_lt hi2, List.getElem?_eq_getElem hil]
          simp
          omega
        rw [this]
    exact ⟨some x, len, cap, _, rfl, by rw [List.length_map, List.length_take]; omega, hn⟩
end
end Go.Proofs.Ythcjcgagbpfkpaa

/- How the reader's steps are opened. -/
import Derived.Test.YthcjcgagbpfkpaaOpenRows
import Derived.Test.YthcjcgagbpfkpaaSpanReads
namespace Go.Proofs.Ythcjcgagbpfkpaa
set_option linter.unusedVariables false
open Go.ChangeShapes Go.WideShapes Go.ChangeAt Go.RowKit Go.Deep

section
variable {H : Type} {enc : TypeId × Value → H} {w : World} {base : Nat} {spare : Nat → Bool} {held : Bool} {r : Reach} {b0 : Nat}
set_option maxRecDepth 100000 in
theorem open_stepsr {v : Value} {d : DataW H} {p : List MemPlace} (hv : Value.okWide Try.prog w r b0 121 v) (h : DataW.Trod enc Try.prog w base spare held 121 v d p) :
    ∃ (a : Option Addr) (len cap : Nat) (z : List Nat), v = .slice a len cap ∧ z.length = len ∧ StepsrIn w a z := by
  obtain ⟨a, len, cap, rfl, hat⟩ := open_rows Try.underlying121 Try.underlying126 (by kernel_rfl) (by kernel_rfl) hv h
  refine ⟨a, len, cap, List.replicate len 0, rfl, by simp, fun i hi => ?_⟩
  obtain ⟨x, n, rfl, hf⟩ := hat i (by simpa using hi)
  obtain ⟨c0, y0, h0, t0⟩ := hf 0 _ rfl
  obtain ⟨c1, y1, h1, t1⟩ := hf 1 _ rfl
  obtain ⟨u, rfl, hu⟩ := int_field Try.underlying3 t0
  obtain ⟨m, rfl, hm⟩ := int_field Try.underlying3 t1
  obtain ⟨u0, u1⟩ := bounds_i64 hu
  obtain ⟨m0, m1⟩ := bounds_i64 hm
  have hb := lt_of_cell h0
  rw [add_block] at hb
  exact ⟨x, u, m, rfl, hb, u0, u1, m0, m1, h0, h1⟩
end
end Go.Proofs.Ythcjcgagbpfkpaa

/- How the table's steps are opened. -/
import Derived.Test.YthcjcgagbpfkpaaOpenRows
import Derived.Test.YthcjcgagbpfkpaaMacSteps
namespace Go.Proofs.Ythcjcgagbpfkpaa
set_option linter.unusedVariables false
open Go.ChangeShapes Go.WideShapes Go.ChangeAt Go.RowKit Go.Deep

section
variable {H : Type} {enc : TypeId × Value → H} {w : World} {base : Nat} {spare : Nat → Bool} {held : Bool} {r : Reach} {b0 : Nat}
set_option maxRecDepth 100000 in
theorem open_stepsm {v : Value} {d : DataW H} {p : List MemPlace} (hv : Value.okWide Try.prog w r b0 68 v) (h : DataW.Trod enc Try.prog w base spare held 68 v d p) :
    ∃ (a : Option Addr) (len cap : Nat) (z : List Nat), v = .slice a len cap ∧ z.length = len ∧ StepsmIn w a z := by
  obtain ⟨a, len, cap, rfl, hat⟩ := open_rows Try.underlying68 Try.underlying73 (by kernel_rfl) (by kernel_rfl) hv h
  refine ⟨a, len, cap, List.replicate len 0, rfl, by simp, fun i hi => ?_⟩
  obtain ⟨x, n, rfl, hf⟩ := hat i (by simpa using hi)
  obtain ⟨c0, y0, h0, t0⟩ := hf 0 _ rfl
  obtain ⟨c1, y1, h1, t1⟩ := hf 1 _ rfl
  obtain ⟨c2, y2, h2, t2⟩ := hf 2 _ rfl
  obtain ⟨c3, y3, h3, t3⟩ := hf 3 _ rfl
  obtain ⟨kind, rfl, hk⟩ := int_field Try.underlying3 t0
  obtain ⟨ow, rfl, ho⟩ := int_field Try.underlying3 t1
  obtain ⟨u, rfl, hu⟩ := int_field Try.underlying22 t2
  obtain ⟨b, rfl⟩ := bool_field Try.underlying4 t3
  obtain ⟨m, rfl, hm⟩ := nat_of_u64 hu
  obtain ⟨o0, o1⟩ := bounds_i64 ho
  have hb := lt_of_cell h0
  rw [add_block] at hb
  exact ⟨x, kind, ow, m, b, rfl, hb, o0, o1, hm, h0, h1, h2, h3⟩
end
end Go.Proofs.Ythcjcgagbpfkpaa

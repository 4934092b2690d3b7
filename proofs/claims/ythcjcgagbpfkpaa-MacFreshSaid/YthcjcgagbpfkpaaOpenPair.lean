/- How an array of two bytes is opened. -/
import Derived.Test.YthcjcgagbpfkpaaOpen
import Derived.WideKeyPair
namespace Go.Proofs.Ythcjcgagbpfkpaa
set_option linter.unusedVariables false
open Go.ChangeShapes Go.WideShapes Go.ChangeAt Go.RowKit Go.Deep

section
variable {P : Program} {H : Type} {enc : TypeId × Value → H} {w : World} {base : Nat} {spare : Nat → Bool} {held : Bool} {r : Reach} {b0 : Nat}
theorem nat_of_u8 {a : Int} (h : (Lit.int .u8 a).wf = true) : ∃ n : Nat, a = n ∧ n < 256 := by
  obtain ⟨h0, h1⟩ := bounds_u8 h
  exact ⟨a.toNat, by omega, by omega⟩
theorem open_bytes2 {k e : TypeId} {v : Value} {d : DataW H} {p : List MemPlace} (hu : P.underlying k = some (.array 2 e)) (he : P.underlying e = some (.int .u8)) (hp : P.plainKey e = true) (h1 : P.cellsOf e = 1) (h2 : P.cellsOf k = 2)
    (hv : Value.okWide P w r b0 k v) (h : DataW.Trod enc P w base spare held k v d p) :
    ∃ c d : Nat, v = .agg #[.int .u8 c, .int .u8 d] ∧ c < 256 ∧ d < 256 := by
  obtain ⟨a, b, rfl, _, _, wa, wb⟩ := Go.WideMaps.open_pair ⟨hu, hp, h1, h2⟩ he hv h
  obtain ⟨c, rfl, hc⟩ := nat_of_u8 wa
  obtain ⟨d, rfl, hd⟩ := nat_of_u8 wb
  exact ⟨c, d, rfl, hc, hd⟩
end
end Go.Proofs.Ythcjcgagbpfkpaa

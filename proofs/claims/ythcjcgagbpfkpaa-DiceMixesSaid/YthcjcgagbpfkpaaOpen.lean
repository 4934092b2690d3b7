/- How this seat's arguments are opened: numbers as naturals within their bounds. -/
import Derived.Test.YthcjcgagbpfkpaaKit
import Derived.ProofKit
import Derived.OpenShut
import Derived.ShutString
import Derived.SizedLaws
import Derived.ChangeOld
import Derived.Carry
namespace Go.Proofs.Ythcjcgagbpfkpaa
open Go.ChangeShapes Go.WideShapes Go.ChangeAt Go.RowKit

theorem nat_of_u64 {a : Int} (h : (Lit.int .u64 a).wf = true) : ∃ n : Nat, a = n ∧ n < 18446744073709551616 := by
  obtain ⟨h0, h1⟩ := bounds_u64 h
  exact ⟨a.toNat, by omega, by omega⟩

end Go.Proofs.Ythcjcgagbpfkpaa

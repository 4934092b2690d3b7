/-
  No cell of these rows narrows 'for every input' (looked for: loops, veiled, ifaces, maps, wideKeys, modest, calm, conditions, laid).
  DERIVED. THE GIVEN ROWS OF THIS SEAT. 20 by the template 'for every input the law returns true; each argument reads behind the call as it read before'; 0 by the template 'total and deterministic' (their statements: YthcjcgagbpfkpaaTotals.lean).
  GIVEN WITH THE SEED: the statements are not yours to turn. If you find one false, say at which input.
  Laid BY PROGRAM, IN A SANDBOX (cutbox-rows.mjs): the forced cells as the released guide's own fill.sh prints them over the translation 0263caac30209975… (all of the seat's roots in one cut). By AI agents, Wed Nov 11 2026. No macro, syntax, notation, axiom, sorry.
-/
import Derived.Test.YthcjcgagbpfkpaaChecked
import GoSem.Claim
import GoSem.ClaimJoined
import GoSem.ClaimMapViews
import Derived.JoinedTies
import Derived.KernelRfl
namespace Go.Proofs.Ythcjcgagbpfkpaa
/- THE CELL 'sum', in the pinned program and in every row, IS THE sha256 OF THE DUMP (.gsa) THAT YthcjcgagbpfkpaaProg.lean LOADS. Nothing in Lean hashes anything: it is a label: what it is worth is what the hold of that sum in a sandbox is worth. -/
noncomputable def Try.pinned : Pinned := { name := "ythcjcgagbpfkpaa", sum := "0263caac302099756d7fc936cdbb8f4c1305ec367fc96d63ae7823f508bb8bb3", checked := Try.checked }
namespace Rows
def none {H : Type} : Left H := { results := [], args := [] }

/-- 'concourselaw34.CallPuts': WHATEVER THE INPUT: true; the input reads as it did. -/
def callPutsSpec : ChangeSpec := { name := "callPuts", fn := fun _ => fun
  | [d1, d2, d3] => { results := [.lit (.bool true)], args := [d1, d2, d3] }
  | _ => none }
def callPutsRow : OpenClaim := { program := "ythcjcgagbpfkpaa", sum := "0263caac302099756d7fc936cdbb8f4c1305ec367fc96d63ae7823f508bb8bb3", func := "concourse/concourselaw34.CallPuts", spec := "callPuts", recurses := true, apart := false }
def CallPutsSaid : Prop := callPutsRow.holds Try.pinned (OpenSpec.ofChange callPutsSpec)

/-- ITS FALSE NEIGHBOUR: 'it returns false'. Refute it at one input. -/
def callPutsWrong : ChangeSpec := { name := "callPuts", fn := fun _ => fun
  | [d1, d2, d3] => { results := [.lit (.bool false)], args := [d1, d2, d3] }
  | _ => none }
def CallPutsWrongFalsely : Prop := callPutsRow.holds Try.pinned (OpenSpec.ofChange callPutsWrong)

/-- 'concourselaw20.DiceSteps': WHATEVER THE INPUT: true; the input reads as it did. -/
def diceStepsSpec : ChangeSpec := { name := "diceSteps", fn := fun _ => fun
  | [d] => { results := [.lit (.bool true)], args := [d] }
  | _ => none }
def diceStepsRow : OpenClaim := { program := "ythcjcgagbpfkpaa", sum := "0263caac302099756d7fc936cdbb8f4c1305ec367fc96d63ae7823f508bb8bb3", func := "concourse/concourselaw20.DiceSteps", spec := "diceSteps", apart := false }
def DiceStepsSaid : Prop := diceStepsRow.holds Try.pinned (OpenSpec.ofChange diceStepsSpec)

/-- ITS FALSE NEIGHBOUR: 'it returns false'. Refute it at one input. -/
def diceStepsWrong : ChangeSpec := { name := "diceSteps", fn := fun _ => fun
  | [d] => { results := [.lit (.bool false)], args := [d] }
  | _ => none }
def DiceStepsWrongFalsely : Prop := diceStepsRow.holds Try.pinned (OpenSpec.ofChange diceStepsWrong)

/-- 'concourselaw20.DiceMixes': WHATEVER THE INPUT: true; the input reads as it did. -/
def diceMixesSpec : ChangeSpec := { name := "diceMixes", fn := fun _ => fun
  | [d1, d2] => { results := [.lit (.bool true)], args := [d1, d2] }
  | _ => none }
def diceMixesRow : OpenClaim := { program := "ythcjcgagbpfkpaa", sum := "0263caac302099756d7fc936cdbb8f4c1305ec367fc96d63ae7823f508bb8bb3", func := "concourse/concourselaw20.DiceMixes", spec := "diceMixes", apart := false }
def DiceMixesSaid : Prop := diceMixesRow.holds Try.pinned (OpenSpec.ofChange diceMixesSpec)

/-- ITS FALSE NEIGHBOUR: 'it returns false'. Refute it at one input. -/
def diceMixesWrong : ChangeSpec := { name := "diceMixes", fn := fun _ => fun
  | [d1, d2] => { results := [.lit (.bool false)], args := [d1, d2] }
  | _ => none }
def DiceMixesWrongFalsely : Prop := diceMixesRow.holds Try.pinned (OpenSpec.ofChange diceMixesWrong)

/-- 'concourselaw20.DiceOrder': WHATEVER THE INPUT: true; the input reads as it did. -/
def diceOrderSpec : ChangeSpec := { name := "diceOrder", fn := fun _ => fun
  | [d] => { results := [.lit (.bool true)], args := [d] }
  | _ => none }
def diceOrderRow : OpenClaim := { program := "ythcjcgagbpfkpaa", sum := "0263caac302099756d7fc936cdbb8f4c1305ec367fc96d63ae7823f508bb8bb3", func := "concourse/concourselaw20.DiceOrder", spec := "diceOrder", apart := false }
def DiceOrderSaid : Prop := diceOrderRow.holds Try.pinned (OpenSpec.ofChange diceOrderSpec)

/-- ITS FALSE NEIGHBOUR: 'it returns false'. Refute it at one input. -/
def diceOrderWrong : ChangeSpec := { name := "diceOrder", fn := fun _ => fun
  | [d] => { results := [.lit (.bool false)], args := [d] }
  | _ => none }
def DiceOrderWrongFalsely : Prop := diceOrderRow.holds Try.pinned (OpenSpec.ofChange diceOrderWrong)

/-- 'concourselaw02.SpanTakes': WHATEVER THE INPUT: true; the input reads as it did. -/
def spanTakesSpec : ChangeSpec := { name := "spanTakes", fn := fun _ => fun
  | [d1, d2, d3] => { results := [.lit (.bool true)], args := [d1, d2, d3] }
  | _ => none }
def spanTakesRow : OpenClaim := { program := "ythcjcgagbpfkpaa", sum := "0263caac302099756d7fc936cdbb8f4c1305ec367fc96d63ae7823f508bb8bb3", func := "concourse/concourselaw02.SpanTakes", spec := "spanTakes", recurses := true, apart := false }
def SpanTakesSaid : Prop := spanTakesRow.holds Try.pinned (OpenSpec.ofChange spanTakesSpec)

/-- ITS FALSE NEIGHBOUR: 'it returns false'. Refute it at one input. -/
def spanTakesWrong : ChangeSpec := { name := "spanTakes", fn := fun _ => fun
  | [d1, d2, d3] => { results := [.lit (.bool false)], args := [d1, d2, d3] }
  | _ => none }
def SpanTakesWrongFalsely : Prop := spanTakesRow.holds Try.pinned (OpenSpec.ofChange spanTakesWrong)

/-- 'concourselaw37.ConfBytes': WHATEVER THE INPUT: true; the input reads as it did. -/
def confBytesSpec : ChangeSpec := { name := "confBytes", fn := fun _ => fun
  | [d1, d2] => { results := [.lit (.bool true)], args := [d1, d2] }
  | _ => none }
def confBytesRow : OpenClaim := { program := "ythcjcgagbpfkpaa", sum := "0263caac302099756d7fc936cdbb8f4c1305ec367fc96d63ae7823f508bb8bb3", func := "concourse/concourselaw37.ConfBytes", spec := "confBytes", inPlace := ["internal/abi.NoEscape"], unfollowed := true, recurses := true, apart := false }
def ConfBytesSaid : Prop := confBytesRow.holds Try.pinned (OpenSpec.ofChange confBytesSpec)

/-- ITS FALSE NEIGHBOUR: 'it returns false'. Refute it at one input. -/
def confBytesWrong : ChangeSpec := { name := "confBytes", fn := fun _ => fun
  | [d1, d2] => { results := [.lit (.bool false)], args := [d1, d2] }
  | _ => none }
def ConfBytesWrongFalsely : Prop := confBytesRow.holds Try.pinned (OpenSpec.ofChange confBytesWrong)

/-- 'concourselaw21.MacSteps': WHATEVER THE INPUT: true; the input reads as it did. -/
def macStepsSpec : ChangeSpec := { name := "macSteps", fn := fun _ => fun
  | [d] => { results := [.lit (.bool true)], args := [d] }
  | _ => none }
def macStepsRow : OpenClaim := { program := "ythcjcgagbpfkpaa", sum := "0263caac302099756d7fc936cdbb8f4c1305ec367fc96d63ae7823f508bb8bb3", func := "concourse/concourselaw21.MacSteps", spec := "macSteps", apart := false }
def MacStepsSaid : Prop := macStepsRow.holds Try.pinned (OpenSpec.ofChange macStepsSpec)

/-- ITS FALSE NEIGHBOUR: 'it returns false'. Refute it at one input. -/
def macStepsWrong : ChangeSpec := { name := "macSteps", fn := fun _ => fun
  | [d] => { results := [.lit (.bool false)], args := [d] }
  | _ => none }
def MacStepsWrongFalsely : Prop := macStepsRow.holds Try.pinned (OpenSpec.ofChange macStepsWrong)

/-- 'concourselaw37.ConfBack': WHATEVER THE INPUT: true; the input reads as it did. -/
def confBackSpec : ChangeSpec := { name := "confBack", fn := fun _ => fun
  | [d1, d2] => { results := [.lit (.bool true)], args := [d1, d2] }
  | _ => none }
def confBackRow : OpenClaim := { program := "ythcjcgagbpfkpaa", sum := "0263caac302099756d7fc936cdbb8f4c1305ec367fc96d63ae7823f508bb8bb3", func := "concourse/concourselaw37.ConfBack", spec := "confBack", inPlace := ["internal/abi.NoEscape"], unfollowed := true, recurses := true, apart := false }
def ConfBackSaid : Prop := confBackRow.holds Try.pinned (OpenSpec.ofChange confBackSpec)

/-- ITS FALSE NEIGHBOUR: 'it returns false'. Refute it at one input. -/
def confBackWrong : ChangeSpec := { name := "confBack", fn := fun _ => fun
  | [d1, d2] => { results := [.lit (.bool false)], args := [d1, d2] }
  | _ => none }
def ConfBackWrongFalsely : Prop := confBackRow.holds Try.pinned (OpenSpec.ofChange confBackWrong)

/-- 'concourselaw21.MacFresh': WHATEVER THE INPUT: true; the input reads as it did. -/
def macFreshSpec : ChangeSpec := { name := "macFresh", fn := fun _ => fun
  | [d1, d2, d3] => { results := [.lit (.bool true)], args := [d1, d2, d3] }
  | _ => none }
def macFreshRow : OpenClaim := { program := "ythcjcgagbpfkpaa", sum := "0263caac302099756d7fc936cdbb8f4c1305ec367fc96d63ae7823f508bb8bb3", func := "concourse/concourselaw21.MacFresh", spec := "macFresh", apart := false }
def MacFreshSaid : Prop := macFreshRow.holds Try.pinned (OpenSpec.ofChange macFreshSpec)

/-- ITS FALSE NEIGHBOUR: 'it returns false'. Refute it at one input. -/
def macFreshWrong : ChangeSpec := { name := "macFresh", fn := fun _ => fun
  | [d1, d2, d3] => { results := [.lit (.bool false)], args := [d1, d2, d3] }
  | _ => none }
def MacFreshWrongFalsely : Prop := macFreshRow.holds Try.pinned (OpenSpec.ofChange macFreshWrong)

/-- 'concourselaw21.MacNone': WHATEVER THE INPUT: true; the input reads as it did. -/
def macNoneSpec : ChangeSpec := { name := "macNone", fn := fun _ => fun
  | [d1, d2, d3] => { results := [.lit (.bool true)], args := [d1, d2, d3] }
  | _ => none }
def macNoneRow : OpenClaim := { program := "ythcjcgagbpfkpaa", sum := "0263caac302099756d7fc936cdbb8f4c1305ec367fc96d63ae7823f508bb8bb3", func := "concourse/concourselaw21.MacNone", spec := "macNone", apart := false }
def MacNoneSaid : Prop := macNoneRow.holds Try.pinned (OpenSpec.ofChange macNoneSpec)

/-- ITS FALSE NEIGHBOUR: 'it returns false'. Refute it at one input. -/
def macNoneWrong : ChangeSpec := { name := "macNone", fn := fun _ => fun
  | [d1, d2, d3] => { results := [.lit (.bool false)], args := [d1, d2, d3] }
  | _ => none }
def MacNoneWrongFalsely : Prop := macNoneRow.holds Try.pinned (OpenSpec.ofChange macNoneWrong)

/-- 'concourselaw22.HelloTakes': WHATEVER THE INPUT: true; the input reads as it did. -/
def helloTakesSpec : ChangeSpec := { name := "helloTakes", fn := fun _ => fun
  | [d1, d2] => { results := [.lit (.bool true)], args := [d1, d2] }
  | _ => none }
def helloTakesRow : OpenClaim := { program := "ythcjcgagbpfkpaa", sum := "0263caac302099756d7fc936cdbb8f4c1305ec367fc96d63ae7823f508bb8bb3", func := "concourse/concourselaw22.HelloTakes", spec := "helloTakes", unfollowed := true, recurses := true, apart := false }
def HelloTakesSaid : Prop := helloTakesRow.holds Try.pinned (OpenSpec.ofChange helloTakesSpec)

/-- ITS FALSE NEIGHBOUR: 'it returns false'. Refute it at one input. -/
def helloTakesWrong : ChangeSpec := { name := "helloTakes", fn := fun _ => fun
  | [d1, d2] => { results := [.lit (.bool false)], args := [d1, d2] }
  | _ => none }
def HelloTakesWrongFalsely : Prop := helloTakesRow.holds Try.pinned (OpenSpec.ofChange helloTakesWrong)

/-- 'concourselaw22.HelloBack': WHATEVER THE INPUT: true; the input reads as it did. -/
def helloBackSpec : ChangeSpec := { name := "helloBack", fn := fun _ => fun
  | [d1, d2] => { results := [.lit (.bool true)], args := [d1, d2] }
  | _ => none }
def helloBackRow : OpenClaim := { program := "ythcjcgagbpfkpaa", sum := "0263caac302099756d7fc936cdbb8f4c1305ec367fc96d63ae7823f508bb8bb3", func := "concourse/concourselaw22.HelloBack", spec := "helloBack", unfollowed := true, recurses := true, apart := false }
def HelloBackSaid : Prop := helloBackRow.holds Try.pinned (OpenSpec.ofChange helloBackSpec)

/-- ITS FALSE NEIGHBOUR: 'it returns false'. Refute it at one input. -/
def helloBackWrong : ChangeSpec := { name := "helloBack", fn := fun _ => fun
  | [d1, d2] => { results := [.lit (.bool false)], args := [d1, d2] }
  | _ => none }
def HelloBackWrongFalsely : Prop := helloBackRow.holds Try.pinned (OpenSpec.ofChange helloBackWrong)

/-- 'concourselaw02.SpanBack': WHATEVER THE INPUT: true; the input reads as it did. -/
def spanBackSpec : ChangeSpec := { name := "spanBack", fn := fun _ => fun
  | [d1, d2, d3] => { results := [.lit (.bool true)], args := [d1, d2, d3] }
  | _ => none }
def spanBackRow : OpenClaim := { program := "ythcjcgagbpfkpaa", sum := "0263caac302099756d7fc936cdbb8f4c1305ec367fc96d63ae7823f508bb8bb3", func := "concourse/concourselaw02.SpanBack", spec := "spanBack", unfollowed := true, recurses := true, apart := false }
def SpanBackSaid : Prop := spanBackRow.holds Try.pinned (OpenSpec.ofChange spanBackSpec)

/-- ITS FALSE NEIGHBOUR: 'it returns false'. Refute it at one input. -/
def spanBackWrong : ChangeSpec := { name := "spanBack", fn := fun _ => fun
  | [d1, d2, d3] => { results := [.lit (.bool false)], args := [d1, d2, d3] }
  | _ => none }
def SpanBackWrongFalsely : Prop := spanBackRow.holds Try.pinned (OpenSpec.ofChange spanBackWrong)

/-- 'concourselaw02.SpanNone': WHATEVER THE INPUT: true; the input reads as it did. -/
def spanNoneSpec : ChangeSpec := { name := "spanNone", fn := fun _ => fun
  | [d] => { results := [.lit (.bool true)], args := [d] }
  | _ => none }
def spanNoneRow : OpenClaim := { program := "ythcjcgagbpfkpaa", sum := "0263caac302099756d7fc936cdbb8f4c1305ec367fc96d63ae7823f508bb8bb3", func := "concourse/concourselaw02.SpanNone", spec := "spanNone", unfollowed := true, recurses := true, apart := false }
def SpanNoneSaid : Prop := spanNoneRow.holds Try.pinned (OpenSpec.ofChange spanNoneSpec)

/-- ITS FALSE NEIGHBOUR: 'it returns false'. Refute it at one input. -/
def spanNoneWrong : ChangeSpec := { name := "spanNone", fn := fun _ => fun
  | [d] => { results := [.lit (.bool false)], args := [d] }
  | _ => none }
def SpanNoneWrongFalsely : Prop := spanNoneRow.holds Try.pinned (OpenSpec.ofChange spanNoneWrong)

/-- 'concourselaw37.ConfMay': WHATEVER THE INPUT: true; the input reads as it did. -/
def confMaySpec : ChangeSpec := { name := "confMay", fn := fun _ => fun
  | [d1, d2] => { results := [.lit (.bool true)], args := [d1, d2] }
  | _ => none }
def confMayRow : OpenClaim := { program := "ythcjcgagbpfkpaa", sum := "0263caac302099756d7fc936cdbb8f4c1305ec367fc96d63ae7823f508bb8bb3", func := "concourse/concourselaw37.ConfMay", spec := "confMay", inPlace := ["internal/abi.NoEscape"], unfollowed := true, recurses := true, apart := false }
def ConfMaySaid : Prop := confMayRow.holds Try.pinned (OpenSpec.ofChange confMaySpec)

/-- ITS FALSE NEIGHBOUR: 'it returns false'. Refute it at one input. -/
def confMayWrong : ChangeSpec := { name := "confMay", fn := fun _ => fun
  | [d1, d2] => { results := [.lit (.bool false)], args := [d1, d2] }
  | _ => none }
def ConfMayWrongFalsely : Prop := confMayRow.holds Try.pinned (OpenSpec.ofChange confMayWrong)

/-- 'concourselaw02.SpanReads': WHATEVER THE INPUT: true; the input reads as it did. -/
def spanReadsSpec : ChangeSpec := { name := "spanReads", fn := fun _ => fun
  | [d1, d2] => { results := [.lit (.bool true)], args := [d1, d2] }
  | _ => none }
def spanReadsRow : OpenClaim := { program := "ythcjcgagbpfkpaa", sum := "0263caac302099756d7fc936cdbb8f4c1305ec367fc96d63ae7823f508bb8bb3", func := "concourse/concourselaw02.SpanReads", spec := "spanReads", unfollowed := true, recurses := true, apart := false }
def SpanReadsSaid : Prop := spanReadsRow.holds Try.pinned (OpenSpec.ofChange spanReadsSpec)

/-- ITS FALSE NEIGHBOUR: 'it returns false'. Refute it at one input. -/
def spanReadsWrong : ChangeSpec := { name := "spanReads", fn := fun _ => fun
  | [d1, d2] => { results := [.lit (.bool false)], args := [d1, d2] }
  | _ => none }
def SpanReadsWrongFalsely : Prop := spanReadsRow.holds Try.pinned (OpenSpec.ofChange spanReadsWrong)

/-- 'concourselaw34.CallTakes': WHATEVER THE INPUT: true; the input reads as it did. -/
def callTakesSpec : ChangeSpec := { name := "callTakes", fn := fun _ => fun
  | [d] => { results := [.lit (.bool true)], args := [d] }
  | _ => none }
def callTakesRow : OpenClaim := { program := "ythcjcgagbpfkpaa", sum := "0263caac302099756d7fc936cdbb8f4c1305ec367fc96d63ae7823f508bb8bb3", func := "concourse/concourselaw34.CallTakes", spec := "callTakes", unfollowed := true, recurses := true, apart := false }
def CallTakesSaid : Prop := callTakesRow.holds Try.pinned (OpenSpec.ofChange callTakesSpec)

/-- ITS FALSE NEIGHBOUR: 'it returns false'. Refute it at one input. -/
def callTakesWrong : ChangeSpec := { name := "callTakes", fn := fun _ => fun
  | [d] => { results := [.lit (.bool false)], args := [d] }
  | _ => none }
def CallTakesWrongFalsely : Prop := callTakesRow.holds Try.pinned (OpenSpec.ofChange callTakesWrong)

/-- 'concourselaw34.CallBack': WHATEVER THE INPUT: true; the input reads as it did. -/
def callBackSpec : ChangeSpec := { name := "callBack", fn := fun _ => fun
  | [d1, d2, d3] => { results := [.lit (.bool true)], args := [d1, d2, d3] }
  | _ => none }
def callBackRow : OpenClaim := { program := "ythcjcgagbpfkpaa", sum := "0263caac302099756d7fc936cdbb8f4c1305ec367fc96d63ae7823f508bb8bb3", func := "concourse/concourselaw34.CallBack", spec := "callBack", unfollowed := true, recurses := true, apart := false }
def CallBackSaid : Prop := callBackRow.holds Try.pinned (OpenSpec.ofChange callBackSpec)

/-- ITS FALSE NEIGHBOUR: 'it returns false'. Refute it at one input. -/
def callBackWrong : ChangeSpec := { name := "callBack", fn := fun _ => fun
  | [d1, d2, d3] => { results := [.lit (.bool false)], args := [d1, d2, d3] }
  | _ => none }
def CallBackWrongFalsely : Prop := callBackRow.holds Try.pinned (OpenSpec.ofChange callBackWrong)

/-- 'concourselaw34.CallOne': WHATEVER THE INPUT: true; the input reads as it did. -/
def callOneSpec : ChangeSpec := { name := "callOne", fn := fun _ => fun
  | [d] => { results := [.lit (.bool true)], args := [d] }
  | _ => none }
def callOneRow : OpenClaim := { program := "ythcjcgagbpfkpaa", sum := "0263caac302099756d7fc936cdbb8f4c1305ec367fc96d63ae7823f508bb8bb3", func := "concourse/concourselaw34.CallOne", spec := "callOne", unfollowed := true, recurses := true, apart := false }
def CallOneSaid : Prop := callOneRow.holds Try.pinned (OpenSpec.ofChange callOneSpec)

/-- ITS FALSE NEIGHBOUR: 'it returns false'. Refute it at one input. -/
def callOneWrong : ChangeSpec := { name := "callOne", fn := fun _ => fun
  | [d] => { results := [.lit (.bool false)], args := [d] }
  | _ => none }
def CallOneWrongFalsely : Prop := callOneRow.holds Try.pinned (OpenSpec.ofChange callOneWrong)

/-- 'concourselaw22.HelloVerifies': WHATEVER THE INPUT: true; the input reads as it did. -/
def helloVerifiesSpec : ChangeSpec := { name := "helloVerifies", fn := fun _ => fun
  | [d1, d2] => { results := [.lit (.bool true)], args := [d1, d2] }
  | _ => none }
def helloVerifiesRow : OpenClaim := { program := "ythcjcgagbpfkpaa", sum := "0263caac302099756d7fc936cdbb8f4c1305ec367fc96d63ae7823f508bb8bb3", func := "concourse/concourselaw22.HelloVerifies", spec := "helloVerifies", unfollowed := true, recurses := true, apart := false }
def HelloVerifiesSaid : Prop := helloVerifiesRow.holds Try.pinned (OpenSpec.ofChange helloVerifiesSpec)

/-- ITS FALSE NEIGHBOUR: 'it returns false'. Refute it at one input. -/
def helloVerifiesWrong : ChangeSpec := { name := "helloVerifies", fn := fun _ => fun
  | [d1, d2] => { results := [.lit (.bool false)], args := [d1, d2] }
  | _ => none }
def HelloVerifiesWrongFalsely : Prop := helloVerifiesRow.holds Try.pinned (OpenSpec.ofChange helloVerifiesWrong)

/- THE SECOND FORM. 'bulk': how many values and letters a reading holds, each counted each time it is reached (what is shared counts as often as it is met; a slice's spare places count too). A statement '..UptoSaid' is the law's where the arguments, and the package variables that the reading takes, are together of bulk at most 1048576: NARROWER than '..Said'. Prove '..Said' where nothing that the law and all that it calls make is longer than what came in: it says more and counts as full. Else prove '..UptoSaid'. A law counts once. -/
mutual
def uptoBulk {H : Type} : DataW H → Nat
  | .lit (.string bytes) => bytes.length + 1
  | .lit _ => 1
  | .nil => 1
  | .ptr d => uptoBulk d + 1
  | .slice elems spare => uptoBulkAll elems + uptoBulkAll spare + 1
  | .agg parts => uptoBulkAll parts + 1
  | .iface _ d => uptoBulk d + 1
  | .map entries => uptoBulkEntries entries + 1
  | .held _ => 1
def uptoBulkAll {H : Type} : List (DataW H) → Nat
  | [] => 0
  | d :: r => uptoBulk d + uptoBulkAll r
def uptoBulkEntries {H : Type} : List (Lit × DataW H) → Nat
  | [] => 0
  | x :: r => uptoBulkEntry x + uptoBulkEntries r
def uptoBulkEntry {H : Type} : Lit × DataW H → Nat
  | (.string bytes, d) => bytes.length + uptoBulk d + 1
  | (_, d) => uptoBulk d + 1
 end
def uptoSmall : (H : Type) → List (DataW H) → Bool := fun _ ds => decide (uptoBulkAll ds ≤ 1048576)
def OpenSpec.upto (s : _root_.Go.ChangeSpec) : _root_.Go.OpenSpec := { _root_.Go.OpenSpec.ofChange s with cond := some uptoSmall }

/-- 'concourselaw34.CallPuts', WHERE WHAT IT READS IS OF BULK AT MOST 1048576: true; the input reads as it did. -/
def callPutsUptoRow : OpenClaim := { program := "ythcjcgagbpfkpaa", sum := "0263caac302099756d7fc936cdbb8f4c1305ec367fc96d63ae7823f508bb8bb3", func := "concourse/concourselaw34.CallPuts", spec := "callPuts", recurses := true, apart := false, narrowed := true }
def CallPutsUptoSaid : Prop := callPutsUptoRow.holds Try.pinned (OpenSpec.upto callPutsSpec)

/-- 'concourselaw20.DiceSteps', WHERE WHAT IT READS IS OF BULK AT MOST 1048576: true; the input reads as it did. -/
def diceStepsUptoRow : OpenClaim := { program := "ythcjcgagbpfkpaa", sum := "0263caac302099756d7fc936cdbb8f4c1305ec367fc96d63ae7823f508bb8bb3", func := "concourse/concourselaw20.DiceSteps", spec := "diceSteps", apart := false, narrowed := true }
def DiceStepsUptoSaid : Prop := diceStepsUptoRow.holds Try.pinned (OpenSpec.upto diceStepsSpec)

/-- 'concourselaw20.DiceMixes', WHERE WHAT IT READS IS OF BULK AT MOST 1048576: true; the input reads as it did. -/
def diceMixesUptoRow : OpenClaim := { program := "ythcjcgagbpfkpaa", sum := "0263caac302099756d7fc936cdbb8f4c1305ec367fc96d63ae7823f508bb8bb3", func := "concourse/concourselaw20.DiceMixes", spec := "diceMixes", apart := false, narrowed := true }
def DiceMixesUptoSaid : Prop := diceMixesUptoRow.holds Try.pinned (OpenSpec.upto diceMixesSpec)

/-- 'concourselaw20.DiceOrder', WHERE WHAT IT READS IS OF BULK AT MOST 1048576: true; the input reads as it did. -/
def diceOrderUptoRow : OpenClaim := { program := "ythcjcgagbpfkpaa", sum := "0263caac302099756d7fc936cdbb8f4c1305ec367fc96d63ae7823f508bb8bb3", func := "concourse/concourselaw20.DiceOrder", spec := "diceOrder", apart := false, narrowed := true }
def DiceOrderUptoSaid : Prop := diceOrderUptoRow.holds Try.pinned (OpenSpec.upto diceOrderSpec)

/-- 'concourselaw02.SpanTakes', WHERE WHAT IT READS IS OF BULK AT MOST 1048576: true; the input reads as it did. -/
def spanTakesUptoRow : OpenClaim := { program := "ythcjcgagbpfkpaa", sum := "0263caac302099756d7fc936cdbb8f4c1305ec367fc96d63ae7823f508bb8bb3", func := "concourse/concourselaw02.SpanTakes", spec := "spanTakes", recurses := true, apart := false, narrowed := true }
def SpanTakesUptoSaid : Prop := spanTakesUptoRow.holds Try.pinned (OpenSpec.upto spanTakesSpec)

/-- 'concourselaw37.ConfBytes', WHERE WHAT IT READS IS OF BULK AT MOST 1048576: true; the input reads as it did. -/
def confBytesUptoRow : OpenClaim := { program := "ythcjcgagbpfkpaa", sum := "0263caac302099756d7fc936cdbb8f4c1305ec367fc96d63ae7823f508bb8bb3", func := "concourse/concourselaw37.ConfBytes", spec := "confBytes", inPlace := ["internal/abi.NoEscape"], unfollowed := true, recurses := true, apart := false, narrowed := true }
def ConfBytesUptoSaid : Prop := confBytesUptoRow.holds Try.pinned (OpenSpec.upto confBytesSpec)

/-- 'concourselaw21.MacSteps', WHERE WHAT IT READS IS OF BULK AT MOST 1048576: true; the input reads as it did. -/
def macStepsUptoRow : OpenClaim := { program := "ythcjcgagbpfkpaa", sum := "0263caac302099756d7fc936cdbb8f4c1305ec367fc96d63ae7823f508bb8bb3", func := "concourse/concourselaw21.MacSteps", spec := "macSteps", apart := false, narrowed := true }
def MacStepsUptoSaid : Prop := macStepsUptoRow.holds Try.pinned (OpenSpec.upto macStepsSpec)

/-- 'concourselaw37.ConfBack', WHERE WHAT IT READS IS OF BULK AT MOST 1048576: true; the input reads as it did. -/
def confBackUptoRow : OpenClaim := { program := "ythcjcgagbpfkpaa", sum := "0263caac302099756d7fc936cdbb8f4c1305ec367fc96d63ae7823f508bb8bb3", func := "concourse/concourselaw37.ConfBack", spec := "confBack", inPlace := ["internal/abi.NoEscape"], unfollowed := true, recurses := true, apart := false, narrowed := true }
def ConfBackUptoSaid : Prop := confBackUptoRow.holds Try.pinned (OpenSpec.upto confBackSpec)

/-- 'concourselaw21.MacFresh', WHERE WHAT IT READS IS OF BULK AT MOST 1048576: true; the input reads as it did. -/
def macFreshUptoRow : OpenClaim := { program := "ythcjcgagbpfkpaa", sum := "0263caac302099756d7fc936cdbb8f4c1305ec367fc96d63ae7823f508bb8bb3", func := "concourse/concourselaw21.MacFresh", spec := "macFresh", apart := false, narrowed := true }
def MacFreshUptoSaid : Prop := macFreshUptoRow.holds Try.pinned (OpenSpec.upto macFreshSpec)

/-- 'concourselaw21.MacNone', WHERE WHAT IT READS IS OF BULK AT MOST 1048576: true; the input reads as it did. -/
def macNoneUptoRow : OpenClaim := { program := "ythcjcgagbpfkpaa", sum := "0263caac302099756d7fc936cdbb8f4c1305ec367fc96d63ae7823f508bb8bb3", func := "concourse/concourselaw21.MacNone", spec := "macNone", apart := false, narrowed := true }
def MacNoneUptoSaid : Prop := macNoneUptoRow.holds Try.pinned (OpenSpec.upto macNoneSpec)

/-- 'concourselaw22.HelloTakes', WHERE WHAT IT READS IS OF BULK AT MOST 1048576: true; the input reads as it did. -/
def helloTakesUptoRow : OpenClaim := { program := "ythcjcgagbpfkpaa", sum := "0263caac302099756d7fc936cdbb8f4c1305ec367fc96d63ae7823f508bb8bb3", func := "concourse/concourselaw22.HelloTakes", spec := "helloTakes", unfollowed := true, recurses := true, apart := false, narrowed := true }
def HelloTakesUptoSaid : Prop := helloTakesUptoRow.holds Try.pinned (OpenSpec.upto helloTakesSpec)

/-- 'concourselaw22.HelloBack', WHERE WHAT IT READS IS OF BULK AT MOST 1048576: true; the input reads as it did. -/
def helloBackUptoRow : OpenClaim := { program := "ythcjcgagbpfkpaa", sum := "0263caac302099756d7fc936cdbb8f4c1305ec367fc96d63ae7823f508bb8bb3", func := "concourse/concourselaw22.HelloBack", spec := "helloBack", unfollowed := true, recurses := true, apart := false, narrowed := true }
def HelloBackUptoSaid : Prop := helloBackUptoRow.holds Try.pinned (OpenSpec.upto helloBackSpec)

/-- 'concourselaw02.SpanBack', WHERE WHAT IT READS IS OF BULK AT MOST 1048576: true; the input reads as it did. -/
def spanBackUptoRow : OpenClaim := { program := "ythcjcgagbpfkpaa", sum := "0263caac302099756d7fc936cdbb8f4c1305ec367fc96d63ae7823f508bb8bb3", func := "concourse/concourselaw02.SpanBack", spec := "spanBack", unfollowed := true, recurses := true, apart := false, narrowed := true }
def SpanBackUptoSaid : Prop := spanBackUptoRow.holds Try.pinned (OpenSpec.upto spanBackSpec)

/-- 'concourselaw02.SpanNone', WHERE WHAT IT READS IS OF BULK AT MOST 1048576: true; the input reads as it did. -/
def spanNoneUptoRow : OpenClaim := { program := "ythcjcgagbpfkpaa", sum := "0263caac302099756d7fc936cdbb8f4c1305ec367fc96d63ae7823f508bb8bb3", func := "concourse/concourselaw02.SpanNone", spec := "spanNone", unfollowed := true, recurses := true, apart := false, narrowed := true }
def SpanNoneUptoSaid : Prop := spanNoneUptoRow.holds Try.pinned (OpenSpec.upto spanNoneSpec)

/-- 'concourselaw37.ConfMay', WHERE WHAT IT READS IS OF BULK AT MOST 1048576: true; the input reads as it did. -/
def confMayUptoRow : OpenClaim := { program := "ythcjcgagbpfkpaa", sum := "0263caac302099756d7fc936cdbb8f4c1305ec367fc96d63ae7823f508bb8bb3", func := "concourse/concourselaw37.ConfMay", spec := "confMay", inPlace := ["internal/abi.NoEscape"], unfollowed := true, recurses := true, apart := false, narrowed := true }
def ConfMayUptoSaid : Prop := confMayUptoRow.holds Try.pinned (OpenSpec.upto confMaySpec)

/-- 'concourselaw02.SpanReads', WHERE WHAT IT READS IS OF BULK AT MOST 1048576: true; the input reads as it did. -/
def spanReadsUptoRow : OpenClaim := { program := "ythcjcgagbpfkpaa", sum := "0263caac302099756d7fc936cdbb8f4c1305ec367fc96d63ae7823f508bb8bb3", func := "concourse/concourselaw02.SpanReads", spec := "spanReads", unfollowed := true, recurses := true, apart := false, narrowed := true }
def SpanReadsUptoSaid : Prop := spanReadsUptoRow.holds Try.pinned (OpenSpec.upto spanReadsSpec)

/-- 'concourselaw34.CallTakes', WHERE WHAT IT READS IS OF BULK AT MOST 1048576: true; the input reads as it did. -/
def callTakesUptoRow : OpenClaim := { program := "ythcjcgagbpfkpaa", sum := "0263caac302099756d7fc936cdbb8f4c1305ec367fc96d63ae7823f508bb8bb3", func := "concourse/concourselaw34.CallTakes", spec := "callTakes", unfollowed := true, recurses := true, apart := false, narrowed := true }
def CallTakesUptoSaid : Prop := callTakesUptoRow.holds Try.pinned (OpenSpec.upto callTakesSpec)

/-- 'concourselaw34.CallBack', WHERE WHAT IT READS IS OF BULK AT MOST 1048576: true; the input reads as it did. -/
def callBackUptoRow : OpenClaim := { program := "ythcjcgagbpfkpaa", sum := "0263caac302099756d7fc936cdbb8f4c1305ec367fc96d63ae7823f508bb8bb3", func := "concourse/concourselaw34.CallBack", spec := "callBack", unfollowed := true, recurses := true, apart := false, narrowed := true }
def CallBackUptoSaid : Prop := callBackUptoRow.holds Try.pinned (OpenSpec.upto callBackSpec)

/-- 'concourselaw34.CallOne', WHERE WHAT IT READS IS OF BULK AT MOST 1048576: true; the input reads as it did. -/
def callOneUptoRow : OpenClaim := { program := "ythcjcgagbpfkpaa", sum := "0263caac302099756d7fc936cdbb8f4c1305ec367fc96d63ae7823f508bb8bb3", func := "concourse/concourselaw34.CallOne", spec := "callOne", unfollowed := true, recurses := true, apart := false, narrowed := true }
def CallOneUptoSaid : Prop := callOneUptoRow.holds Try.pinned (OpenSpec.upto callOneSpec)

/-- 'concourselaw22.HelloVerifies', WHERE WHAT IT READS IS OF BULK AT MOST 1048576: true; the input reads as it did. -/
def helloVerifiesUptoRow : OpenClaim := { program := "ythcjcgagbpfkpaa", sum := "0263caac302099756d7fc936cdbb8f4c1305ec367fc96d63ae7823f508bb8bb3", func := "concourse/concourselaw22.HelloVerifies", spec := "helloVerifies", unfollowed := true, recurses := true, apart := false, narrowed := true }
def HelloVerifiesUptoSaid : Prop := helloVerifiesUptoRow.holds Try.pinned (OpenSpec.upto helloVerifiesSpec)

end Rows
end Go.Proofs.Ythcjcgagbpfkpaa

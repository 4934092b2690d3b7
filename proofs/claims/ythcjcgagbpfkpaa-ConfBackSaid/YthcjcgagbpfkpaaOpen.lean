/- How this seat's arguments are opened: numbers as naturals within their bounds. -/
import Derived.Test.YthcjcgagbpfkpaaKit
import Derived.ProofKit
import Derived.OpenShut
import Derived.ShutString
import Derived.SizedLaws
import Derived.ChangeOld
import Derived.Carry
import Derived.Lib.SmallJoins
namespace Go.Proofs.Ythcjcgagbpfkpaa
set_option linter.unusedVariables false
open Go.ChangeShapes Go.WideShapes Go.ChangeAt Go.RowKit Go.Deep

theorem nat_of_u64 {a : Int} (h : (Lit.int .u64 a).wf = true) : ∃ n : Nat, a = n ∧ n < 18446744073709551616 := by
  obtain ⟨h0, h1⟩ := bounds_u64 h
  exact ⟨a.toNat, by omega, by omega⟩

section
variable {P : Program} {H : Type} {enc : TypeId × Value → H} {w : World} {base : Nat} {spare : Nat → Bool} {held : Bool} {r : Reach} {b0 : Nat}

/-- A struct by value, each field of one cell: its cells, and each field's reading. -/
theorem open_cells {t : TypeId} {fs : Array Field} {v : Value} {d : DataW H} {p : List MemPlace} (hs : P.underlying t = some (.struct fs)) (hone : oneCellFields P fs = true) (hC : P.cellsOf t = fs.size)
    (hv : Value.okWide P w r b0 t v) (h : DataW.Trod enc P w base spare held t v d p) :
    ∃ (cs : List Value) (ys : List (DataW H × List MemPlace)) (n : Nat), v = .agg cs.toArray ∧ d = .agg (ys.map (·.1)) ∧ cs.length = fs.size ∧
      ∀ (i : Nat) (f : Field), fs[i]? = some f → ∃ c y, cs[i]? = some c ∧ ys[i]? = some y ∧ DataW.trod enc P w base spare held n f.type [c] = some y := by
  obtain ⟨cs0, rfl, hsz⟩ := okWide_struct hs hv
  obtain ⟨cs⟩ := cs0
  obtain ⟨fuel, hf⟩ := h
  obtain ⟨ys, n, _, hx, _, hyl, hg⟩ := DataW.trod_struct hs hf
  simp only [Prod.mk.injEq] at hx
  have hcl : cs.length = fs.size := by rw [← hC, ← hsz]; simp
  refine ⟨cs, ys, n, rfl, hx.1, hcl, fun i f hi => ?_⟩
  have hil : i < fs.size := (Array.getElem?_eq_some_iff.1 hi).1
  obtain ⟨ho, hk⟩ := hone_of hone i f hi
  have h1 := hg i f hi
  rw [ho, hk] at h1
  have hd : ((Value.agg cs.toArray).cells.toList.drop i).take 1 = [cs[i]'(by omega)] := by
    simp only [Value.cells]
    rw [List.drop_eq_getElem_cons (by omega)]
    rfl
  rw [hd, List.getElem?_eq_getElem (by omega)] at h1
  exact ⟨_, _, List.getElem?_eq_getElem (by omega), List.getElem?_eq_getElem (by omega), h1⟩

/-- A text in a field weighs no more than the reach. -/
theorem sized_field {ts : List TypeId} {ds : List (DataW H)} (hsz : (DataW.weightsEach P ts ds).all (· ≤ reachBytes) = true) {j i : Nat} {t u : TypeId} {fs : Array Field} {parts : List (DataW H)} {bytes : List UInt8}
    (ht : ts[j]? = some t) (hd : ds[j]? = some (.agg parts)) (hu : P.underlying t = some (.struct fs)) (hf : (fs.toList.map (·.type))[i]? = some u) (hp : parts[i]? = some (.lit (.string bytes))) : bytes.length ≤ reachBytes := by
  have h1 : bytes.length ∈ (DataW.lit (H := H) (.string bytes)).weights P u := by simp [DataW.weights]
  have h2 := DataW.weights_mem_each hf hp _ h1
  have h3 : bytes.length ∈ (DataW.agg parts).weights P t := by
    unfold DataW.weights
    rw [hu]
    exact h2
  have := List.all_eq_true.1 hsz _ (DataW.weights_mem_each ht hd _ h3)
  simpa using this

theorem int_field {t : TypeId} {k : IntKind} {n : Nat} {c : Value} {y : DataW H × List MemPlace} (hu : P.underlying t = some (.int k)) (h : DataW.trod enc P w base spare held n t [c] = some y) :
    ∃ a, c = .int k a ∧ (Lit.int k a).wf = true := by
  obtain ⟨a, e0, _, wa⟩ := DataW.trod_int hu h
  simp at e0
  exact ⟨a, e0, wa⟩
theorem string_field {t : TypeId} {n : Nat} {c : Value} {y : DataW H × List MemPlace} (hu : P.underlying t = some .string) (h : DataW.trod enc P w base spare held n t [c] = some y) :
    ∃ s : ByteArray, c = .string s ∧ y.1 = .lit (.string s.data.toList) := by
  obtain ⟨s, e0, hy, _⟩ := DataW.trod_string hu h
  simp at e0
  exact ⟨s, e0, by rw [hy]⟩
end

theorem list_cells3 {α : Type} {l : List α} {x0 x1 x2 : α} (hl : l.length = 3) (h0 : l[0]? = some x0) (h1 : l[1]? = some x1) (h2 : l[2]? = some x2) : l = [x0, x1, x2] := by
  match l, hl with
  | [y0, y1, y2], _ => simp at h0 h1 h2; simp [h0, h1, h2]
theorem list_cells4 {α : Type} {l : List α} {x0 x1 x2 x3 : α} (hl : l.length = 4) (h0 : l[0]? = some x0) (h1 : l[1]? = some x1) (h2 : l[2]? = some x2) (h3 : l[3]? = some x3) : l = [x0, x1, x2, x3] := by
  match l, hl with
  | [y0, y1, y2, y3], _ => simp at h0 h1 h2 h3; simp [h0, h1, h2, h3]
theorem list_cells5 {α : Type} {l : List α} {x0 x1 x2 x3 x4 : α} (hl : l.length = 5) (h0 : l[0]? = some x0) (h1 : l[1]? = some x1) (h2 : l[2]? = some x2) (h3 : l[3]? = some x3) (h4 : l[4]? = some x4) : l = [x0, x1, x2, x3, x4] := by
  match l, hl with
  | [y0, y1, y2, y3, y4], _ => simp at h0 h1 h2 h3 h4; simp [h0, h1, h2, h3, h4]
theorem list_cells9 {α : Type} {l : List α} {x0 x1 x2 x3 x4 x5 x6 x7 x8 : α} (hl : l.length = 9) (h0 : l[0]? = some x0) (h1 : l[1]? = some x1) (h2 : l[2]? = some x2) (h3 : l[3]? = some x3) (h4 : l[4]? = some x4) (h5 : l[5]? = some x5) (h6 : l[6]? = some x6) (h7 : l[7]? = some x7) (h8 : l[8]? = some x8) : l = [x0, x1, x2, x3, x4, x5, x6, x7, x8] := by
  match l, hl with
  | [y0, y1, y2, y3, y4, y5, y6, y7, y8], _ => simp at h0 h1 h2 h3 h4 h5 h6 h7 h8; simp [h0, h1, h2, h3, h4, h5, h6, h7, h8]

set_option maxRecDepth 100000 in
theorem open_call {H : Type} {enc : TypeId × Value → H} {w : World} {base : Nat} {spare : Nat → Bool} {held : Bool} {r : Reach} {b0 : Nat} {v : Value} {d : DataW H} {p : List MemPlace} {ts : List TypeId} {ds : List (DataW H)}
    (hsz : (DataW.weightsEach Try.prog ts ds).all (· ≤ reachBytes) = true) {j : Nat} (ht : ts[j]? = some 24) (hd : ds[j]? = some d)
    (hv : Value.okWide Try.prog w r b0 24 v) (h : DataW.Trod enc Try.prog w base spare held 24 v d p) :
    ∃ (id : Nat) (wt : Int) (nm : Int) (s : ByteArray), v = .agg #[.int .u64 (id : Nat), .int .i64 wt, .int .i64 nm, .string s] ∧ id < 18446744073709551616 ∧ (-9223372036854775808 ≤ wt ∧ wt ≤ 9223372036854775807) ∧ (-9223372036854775808 ≤ nm ∧ nm ≤ 9223372036854775807) ∧ s.size ≤ 140737488351232 := by
  obtain ⟨cs, ys, n, rfl, rfl, hl, hg⟩ := open_cells Try.underlying24 (by kernel_rfl) (by kernel_rfl) hv h
  obtain ⟨c0, y0, hc0, hy0, ht0⟩ := hg 0 _ rfl
  obtain ⟨a0, rfl, w0⟩ := int_field Try.underlying22 ht0
  obtain ⟨id, rfl, b0⟩ := nat_of_u64 w0
  obtain ⟨c1, y1, hc1, hy1, ht1⟩ := hg 1 _ rfl
  obtain ⟨a1, rfl, w1⟩ := int_field Try.underlying3 ht1
  have b1 := bounds_i64 w1
  obtain ⟨c2, y2, hc2, hy2, ht2⟩ := hg 2 _ rfl
  obtain ⟨a2, rfl, w2⟩ := int_field Try.underlying3 ht2
  have b2 := bounds_i64 w2
  obtain ⟨c3, y3, hc3, hy3, ht3⟩ := hg 3 _ rfl
  obtain ⟨s, rfl, e3⟩ := string_field Try.underlying9 ht3
  have b3 : s.size ≤ 140737488351232 := sized_field hsz (i := 3) (u := 9) ht hd Try.underlying24 rfl (by rw [List.getElem?_map, hy3, Option.map_some, e3])
  refine ⟨id, a1, a2, s, ?_, b0, b1, b2, b3⟩
  congr 1
  apply Array.ext'
  simp only
  exact list_cells4 hl hc0 hc1 hc2 hc3

set_option maxRecDepth 100000 in
theorem open_bind {H : Type} {enc : TypeId × Value → H} {w : World} {base : Nat} {spare : Nat → Bool} {held : Bool} {r : Reach} {b0 : Nat} {v : Value} {d : DataW H} {p : List MemPlace} {ts : List TypeId} {ds : List (DataW H)}
    (hsz : (DataW.weightsEach Try.prog ts ds).all (· ≤ reachBytes) = true) {j : Nat} (ht : ts[j]? = some 26) (hd : ds[j]? = some d)
    (hv : Value.okWide Try.prog w r b0 26 v) (h : DataW.Trod enc Try.prog w base spare held 26 v d p) :
    ∃ (id : Nat) (num : Int) (sv : ByteArray) (mt : ByteArray) (op : Int), v = .agg #[.int .u64 (id : Nat), .int .i64 num, .string sv, .string mt, .int .i64 op] ∧ id < 18446744073709551616 ∧ (-9223372036854775808 ≤ num ∧ num ≤ 9223372036854775807) ∧ sv.size ≤ 140737488351232 ∧ mt.size ≤ 140737488351232 ∧ (-9223372036854775808 ≤ op ∧ op ≤ 9223372036854775807) := by
  obtain ⟨cs, ys, n, rfl, rfl, hl, hg⟩ := open_cells Try.underlying26 (by kernel_rfl) (by kernel_rfl) hv h
  obtain ⟨c0, y0, hc0, hy0, ht0⟩ := hg 0 _ rfl
  obtain ⟨a0, rfl, w0⟩ := int_field Try.underlying22 ht0
  obtain ⟨id, rfl, b0⟩ := nat_of_u64 w0
  obtain ⟨c1, y1, hc1, hy1, ht1⟩ := hg 1 _ rfl
  obtain ⟨a1, rfl, w1⟩ := int_field Try.underlying3 ht1
  have b1 := bounds_i64 w1
  obtain ⟨c2, y2, hc2, hy2, ht2⟩ := hg 2 _ rfl
  obtain ⟨sv, rfl, e2⟩ := string_field Try.underlying9 ht2
  have b2 : sv.size ≤ 140737488351232 := sized_field hsz (i := 2) (u := 9) ht hd Try.underlying26 rfl (by rw [List.getElem?_map, hy2, Option.map_some, e2])
  obtain ⟨c3, y3, hc3, hy3, ht3⟩ := hg 3 _ rfl
  obtain ⟨mt, rfl, e3⟩ := string_field Try.underlying9 ht3
  have b3 : mt.size ≤ 140737488351232 := sized_field hsz (i := 3) (u := 9) ht hd Try.underlying26 rfl (by rw [List.getElem?_map, hy3, Option.map_some, e3])
  obtain ⟨c4, y4, hc4, hy4, ht4⟩ := hg 4 _ rfl
  obtain ⟨a4, rfl, w4⟩ := int_field Try.underlying3 ht4
  have b4 := bounds_i64 w4
  refine ⟨id, a1, sv, mt, a4, ?_, b0, b1, b2, b3, b4⟩
  congr 1
  apply Array.ext'
  simp only
  exact list_cells5 hl hc0 hc1 hc2 hc3 hc4

set_option maxRecDepth 100000 in
theorem open_hello {H : Type} {enc : TypeId × Value → H} {w : World} {base : Nat} {spare : Nat → Bool} {held : Bool} {r : Reach} {b0 : Nat} {v : Value} {d : DataW H} {p : List MemPlace} {ts : List TypeId} {ds : List (DataW H)}
    (hsz : (DataW.weightsEach Try.prog ts ds).all (· ≤ reachBytes) = true) {j : Nat} (ht : ts[j]? = some 100) (hd : ds[j]? = some d)
    (hv : Value.okWide Try.prog w r b0 100 v) (h : DataW.Trod enc Try.prog w base spare held 100 v d p) :
    ∃ (ow : Int) (ep : Int) (tag : Nat), v = .agg #[.int .i64 ow, .int .i64 ep, .int .u64 (tag : Nat)] ∧ (-9223372036854775808 ≤ ow ∧ ow ≤ 9223372036854775807) ∧ (-9223372036854775808 ≤ ep ∧ ep ≤ 9223372036854775807) ∧ tag < 18446744073709551616 := by
  obtain ⟨cs, ys, n, rfl, rfl, hl, hg⟩ := open_cells Try.underlying100 (by kernel_rfl) (by kernel_rfl) hv h
  obtain ⟨c0, y0, hc0, hy0, ht0⟩ := hg 0 _ rfl
  obtain ⟨a0, rfl, w0⟩ := int_field Try.underlying3 ht0
  have b0 := bounds_i64 w0
  obtain ⟨c1, y1, hc1, hy1, ht1⟩ := hg 1 _ rfl
  obtain ⟨a1, rfl, w1⟩ := int_field Try.underlying3 ht1
  have b1 := bounds_i64 w1
  obtain ⟨c2, y2, hc2, hy2, ht2⟩ := hg 2 _ rfl
  obtain ⟨a2, rfl, w2⟩ := int_field Try.underlying22 ht2
  obtain ⟨tag, rfl, b2⟩ := nat_of_u64 w2
  refine ⟨a0, a1, tag, ?_, b0, b1, b2⟩
  congr 1
  apply Array.ext'
  simp only
  exact list_cells3 hl hc0 hc1 hc2

set_option maxRecDepth 100000 in
theorem open_conf {H : Type} {enc : TypeId × Value → H} {w : World} {base : Nat} {spare : Nat → Bool} {held : Bool} {r : Reach} {b0 : Nat} {v : Value} {d : DataW H} {p : List MemPlace} {ts : List TypeId} {ds : List (DataW H)}
    (hsz : (DataW.weightsEach Try.prog ts ds).all (· ≤ reachBytes) = true) {j : Nat} (ht : ts[j]? = some 62) (hd : ds[j]? = some d)
    (hv : Value.okWide Try.prog w r b0 62 v) (h : DataW.Trod enc Try.prog w base spare held 62 v d p) :
    ∃ (c0_ : Int) (c1_ : Int) (c2_ : Int) (c3_ : Int) (c4_ : Int) (c5_ : Int) (c6_ : Int) (c7_ : Int) (c8_ : Int), v = .agg #[.int .i64 c0_, .int .i64 c1_, .int .i64 c2_, .int .i64 c3_, .int .i64 c4_, .int .i64 c5_, .int .i64 c6_, .int .i64 c7_, .int .i64 c8_] ∧ (-9223372036854775808 ≤ c0_ ∧ c0_ ≤ 9223372036854775807) ∧ (-9223372036854775808 ≤ c1_ ∧ c1_ ≤ 9223372036854775807) ∧ (-9223372036854775808 ≤ c2_ ∧ c2_ ≤ 9223372036854775807) ∧ (-9223372036854775808 ≤ c3_ ∧ c3_ ≤ 9223372036854775807) ∧ (-9223372036854775808 ≤ c4_ ∧ c4_ ≤ 9223372036854775807) ∧ (-9223372036854775808 ≤ c5_ ∧ c5_ ≤ 9223372036854775807) ∧ (-9223372036854775808 ≤ c6_ ∧ c6_ ≤ 9223372036854775807) ∧ (-9223372036854775808 ≤ c7_ ∧ c7_ ≤ 9223372036854775807) ∧ (-9223372036854775808 ≤ c8_ ∧ c8_ ≤ 9223372036854775807) := by
  obtain ⟨cs, ys, n, rfl, rfl, hl, hg⟩ := open_cells Try.underlying62 (by kernel_rfl) (by kernel_rfl) hv h
  obtain ⟨c0, y0, hc0, hy0, ht0⟩ := hg 0 _ rfl
  obtain ⟨a0, rfl, w0⟩ := int_field Try.underlying3 ht0
  have b0 := bounds_i64 w0
  obtain ⟨c1, y1, hc1, hy1, ht1⟩ := hg 1 _ rfl
  obtain ⟨a1, rfl, w1⟩ := int_field Try.underlying3 ht1
  have b1 := bounds_i64 w1
  obtain ⟨c2, y2, hc2, hy2, ht2⟩ := hg 2 _ rfl
  obtain ⟨a2, rfl, w2⟩ := int_field Try.underlying3 ht2
  have b2 := bounds_i64 w2
  obtain ⟨c3, y3, hc3, hy3, ht3⟩ := hg 3 _ rfl
  obtain ⟨a3, rfl, w3⟩ := int_field Try.underlying3 ht3
  have b3 := bounds_i64 w3
  obtain ⟨c4, y4, hc4, hy4, ht4⟩ := hg 4 _ rfl
  obtain ⟨a4, rfl, w4⟩ := int_field Try.underlying3 ht4
  have b4 := bounds_i64 w4
  obtain ⟨c5, y5, hc5, hy5, ht5⟩ := hg 5 _ rfl
  obtain ⟨a5, rfl, w5⟩ := int_field Try.underlying3 ht5
  have b5 := bounds_i64 w5
  obtain ⟨c6, y6, hc6, hy6, ht6⟩ := hg 6 _ rfl
  obtain ⟨a6, rfl, w6⟩ := int_field Try.underlying3 ht6
  have b6 := bounds_i64 w6
  obtain ⟨c7, y7, hc7, hy7, ht7⟩ := hg 7 _ rfl
  obtain ⟨a7, rfl, w7⟩ := int_field Try.underlying3 ht7
  have b7 := bounds_i64 w7
  obtain ⟨c8, y8, hc8, hy8, ht8⟩ := hg 8 _ rfl
  obtain ⟨a8, rfl, w8⟩ := int_field Try.underlying3 ht8
  have b8 := bounds_i64 w8
  refine ⟨a0, a1, a2, a3, a4, a5, a6, a7, a8, ?_, b0, b1, b2, b3, b4, b5, b6, b7, b8⟩
  congr 1
  apply Array.ext'
  simp only
  exact list_cells9 hl hc0 hc1 hc2 hc3 hc4 hc5 hc6 hc7 hc8

end Go.Proofs.Ythcjcgagbpfkpaa

/- In a round of a range over a function, under the wide fence, an operation that is no defer statement goes as everywhere: what is walked plainly serves there. -/
import Derived.Test.YthcjcgagbpfkpaaPure
import Derived.OrdersIn
import Derived.RangeFuncCalls
import Derived.TacticsIn
namespace Go.Proofs.Ythcjcgagbpfkpaa
open Go Go.RowKit

section
variable {P : Program} {ops : Array Oper} {md : Region.Mode} {l n : Nat} {Q : Exit → Act → World → Prop}

def noDefer (o : Oper) : Bool := match o.op with | .defer _ => false | _ => true
theorem noDefer_spec {o : Oper} (h : noDefer o = true) : ∀ c, o.op ≠ .defer c := fun c hc => by simp [noDefer, hc] at h

theorem rowsIn_round {row : String} {args : Array Value} {w : World} {R : Value → World → Prop} (h : Rows P row args w R) : RowsIn (Fence.wide.inRound l) n P row args w R := fun c cs _ =>
  let ⟨v, w', r, s⟩ := h c cs
  ⟨v, w', r, (stepsIn_wide.2 s : StepsIn (Machine.fenced P Fence.wide) P _ _)⟩

theorem wpIn_of_wp {o : Oper} {a : Act} {w : World} {K : Act → World → Prop} (hd : noDefer o = true) (hh : o.wp P a w K Q) : o.wpIn (Fence.wide.inRound l) n P a w K Q := by
  refine ⟨fun _ _ => trivial, ?_⟩
  rw [Oper.semAt_eq _ _ _ (noDefer_spec hd)]
  unfold Oper.wp at hh
  generalize (execOp a.eval o).run P w = r at *
  cases r with
  | ok x w' =>
    cases x <;> simp only [Oper.upon] at hh <;> simp only [Oper.uponIn]
    case value v => exact hh
    case skip => exact hh
    case defer d => exact hh
    case enter f args => exact ⟨fun h => by simp [Fence.wide] at h, CallsIn.inRound l (callsIn_wide.2 hh)⟩
    case row row args => exact ⟨fun h => by simp [Fence.wide] at h, rowsIn_round hh⟩
  | halt x w' =>
    cases x <;> simp only [Oper.upon] at hh <;> simp only [Oper.uponIn]
    case panic v => exact hh

theorem wpOpIn_of_wpOp {i : Nat} {a : Act} {w : World} {K K' : Act → World → Prop} (hd : ops.all noDefer = true) (hno : ¬ LetsOut Q) (hK : ∀ a w, K a w → K' a w) (hh : wpOp P ops Q i K a w) :
    wpOpIn (Fence.wide.inRound l) n P ops Q i K' a w := by
  refine wpOpIn_mono hK ?_
  unfold wpOp at hh
  unfold wpOpIn
  split
  · rename_i ho; simpa [ho] using hh
  · rename_i o ho
    simp only [ho] at hh
    split
    · rename_i hw
      simp only [hw, if_true] at hh
      rcases hh with hh | ⟨_, hl⟩
      · exact wpIn_of_wp (Array.all_eq_true_iff_forall_mem.1 hd o (Array.mem_of_getElem? ho)) hh
      · exact absurd hl hno
    · rename_i hw
      simp only [hw] at hh
      exact ⟨fun _ _ => trivial, hh⟩

theorem wpAnyIn_of_wpAny (hd : ops.all noDefer = true) (hno : ¬ LetsOut Q) : ∀ (fuel : Nat) (listed : Array Bool) (a : Act) (w : World),
    wpAny P md ops Q fuel listed a w → wpAnyIn (Fence.wide.inRound l) n P md ops Q fuel listed a w
  | 0, _, _, _, h => h
  | fuel + 1, _, _, _, h => ⟨h.1, fun i hi => wpOpIn_of_wpOp hd hno (fun a w h => wpAnyIn_of_wpAny hd hno fuel _ a w h) (h.2 i hi)⟩

theorem wpListIn_of_wpList (hno : ¬ LetsOut Q) : ∀ (l' : List Oper) (a : Act) (w : World), l'.all noDefer = true → wpList P ops Q l' a w → wpListIn (Fence.wide.inRound l) n P ops Q l' a w
  | [], _, _, _, h => h
  | o :: rest, a, w, hd, h => by
    simp only [List.all_cons, Bool.and_eq_true] at hd
    unfold wpList at h
    unfold wpListIn
    split
    · rename_i hw
      simp only [hw, if_true] at h
      have h' : o.wp P a w (wpList P ops Q rest) Q := by
        first
          | exact h
          | exact h.elim id (fun h => absurd h.2 hno)
      exact wpIn_of_wp hd.1 (Oper.wp_mono (fun a w h => wpListIn_of_wpList hno rest a w hd.2 h) h')
    · rename_i hw
      simp only [hw] at h
      exact ⟨fun _ _ => trivial, wpListIn_of_wpList hno rest _ _ hd.2 h⟩

theorem wpIn_region_of_any {id : Nat} {lst : List Oper} {a : Act} {w : World} (hm : P.follows .mixedOrders = true) (hd : lst.toArray.all noDefer = true) (hno : ¬ LetsOut Q)
    (h : wpAny P .any lst.toArray Q lst.toArray.size (Array.replicate lst.toArray.size false) a w.drew) : (Code.region id lst.toArray true).wpIn (Fence.wide.inRound l) n P Q a w :=
  wpIn_region_any hm (wpAnyIn_of_wpAny hd hno _ _ _ _ h)

/-- The walk over what only reads, shut: Lean's own reduction shall not look into it. -/
structure Reads (P : Program) (ops : Array Oper) (w : World) (K₀ : Act → Prop) (l : List Oper) (a : Act) : Prop where
  out : wpStill P ops w K₀ l a
theorem Reads.nil {K₀ : Act → Prop} {a : Act} {w : World} (h : K₀ a) : Reads P ops w K₀ [] a := ⟨wpStill_nil h⟩
/-- An operation that is passed over; one that is carried out: what follows stays hidden from the walk. -/
theorem Reads.skip {K₀ : Act → Prop} {a : Act} {w : World} {o : Oper} {rest : List Oper} (hw : Region.wanted o (yielded ops a.tmps) = false)
    (h : ∀ K : Act → Prop, Aside (∀ a, Reads P ops w K₀ rest a → K a) → K (a.put o.dst undef)) : Reads P ops w K₀ (o :: rest) a := ⟨by
  unfold wpStill
  rw [if_neg (by rw [hw]; exact Bool.false_ne_true)]
  exact h _ ⟨fun _ h => h.out⟩⟩
theorem Reads.want {K₀ : Act → Prop} {a : Act} {w : World} {o : Oper} {rest : List Oper} (hw : Region.wanted o (yielded ops a.tmps) = true)
    (h : ∀ K : Act → Prop, Aside (∀ a, Reads P ops w K₀ rest a → K a) → o.still P a w K) : Reads P ops w K₀ (o :: rest) a := ⟨by
  unfold wpStill
  rw [if_pos hw]
  exact h _ ⟨fun _ h => h.out⟩⟩

/-- A region that only reads. -/
theorem wpIn_region_still {id : Nat} {lst : List Oper} {a : Act} {w : World} (hm : P.follows .mixedOrders = true) (hd : lst.toArray.all noDefer = true) (hno : ¬ LetsOut Q)
    (hB : Region.lexB .any lst.toArray = true) (h : Reads P lst.toArray w.drew (fun a' => Q .normal a' w.drew) lst a) : (Code.region id lst.toArray true).wpIn (Fence.wide.inRound l) n P Q a w := by
  replace h := h.out
  simp only [Region.lexB, Bool.and_eq_true] at hB
  refine wpIn_region_of_any hm hd hno (wpAny_of_still (Q := fun a' => Q .normal a' w.drew) (fun _ h => h) _ _ _ ?_)
  have := wpAnyS_lex (md := .any) hB.1 lst 0 (Array.replicate lst.toArray.size false) a (by simp) (by simpa using hB.2) h
  simpa using this

/-- A region that reads, and ends in a tail of one order. -/
theorem wpIn_region_still_tail {id : Nat} {lst : List Oper} {a : Act} {w : World} (m : Nat) (hm : P.follows .mixedOrders = true) (hd : lst.toArray.all noDefer = true) (hno : ¬ LetsOut Q)
    (hB : Region.lexTailB .any lst.toArray m = true)
    (h : Reads P lst.toArray w.drew (fun a' => wpList P lst.toArray Q (lst.drop m) a' w.drew) (lst.take m) a) : (Code.region id lst.toArray true).wpIn (Fence.wide.inRound l) n P Q a w := by
  replace h := h.out
  simp only [Region.lexTailB, Bool.and_eq_true, decide_eq_true_eq] at hB
  obtain ⟨⟨⟨⟨hsel, hn⟩, hs⟩, hc⟩, hlex⟩ := hB
  have hn' : m < lst.length := by simpa using hn
  have htl : (lst.take m).length = m := by simp; omega
  have hdl : (lst.drop m).length = lst.toArray.size - m := by simp
  have inv0 : HeadInv .any lst.toArray m (Array.replicate lst.toArray.size false) :=
    ⟨by simp, fun j oj _ hl => (by rw [getD_replicate_false] at hl; cases hl), fun t _ ht => getD_in (by simpa using ht) (getD_replicate_false _ _)⟩
  have H := wpAnyL_lex (md := .any) (g := lst.toArray.size - m) hsel hs hc hn (lst.take m) 0 _ a (fun j hj => by
    have hj' : j < m := by rw [htl] at hj; exact hj
    simp [hj']) (by simpa using htl) inv0 (by rw [htl]; exact hlex) h
  refine wpIn_region_of_any hm hd hno ?_
  have := wpAny_of_head (Q' := Q) (g := lst.toArray.size - m) (fun listed a' hL => by
    have := wpAny_of_seq (md := .any) (Q' := Q) (lst.drop m) m listed a' w.drew (fun j => by simp [List.getElem?_drop]) (by rw [hdl]; exact hL.1) hL.2
    rwa [hdl] at this) _ _ _ H
  rw [htl, show m + (lst.toArray.size - m) = lst.toArray.size by simp; omega] at this
  exact this

theorem wpOp_run {i : Nat} {o : Oper} {a : Act} {w : World} {K : Act → World → Prop} (hi : ops[i]? = some o) (hg : o.guard = none) (h : o.wp P a w K Q) : wpOp P ops Q i K a w := by
  unfold wpOp
  simp only [hi, Region.wanted, hg, if_true]
  exact .inl h

/-- Whatever order is picked from here on, shut. -/
structure AnyG (P : Program) (ops : Array Oper) (Q : Exit → Act → World → Prop) (fuel : Nat) (listed : Array Bool) (a : Act) (w : World) : Prop where
  out : wpAny P .any ops Q fuel listed a w
theorem AnyG.fork {i j fuel : Nat} {oi oj : Oper} {listed : Array Bool} {a : Act} {w : World} (hr : Region.ready .any ops listed = [i, j]) (hi : ops[i]? = some oi) (hj : ops[j]? = some oj)
    (hgi : oi.guard = none) (hgj : oj.guard = none)
    (h1 : ∀ K : Act → World → Prop, Aside (∀ a w, AnyG P ops Q fuel (listed.setIfInBounds i true) a w → K a w) → oi.wp P a w K Q)
    (h2 : ∀ K : Act → World → Prop, Aside (∀ a w, AnyG P ops Q fuel (listed.setIfInBounds j true) a w → K a w) → oj.wp P a w K Q) : AnyG P ops Q (fuel + 1) listed a w :=
  ⟨wpAny_all hr (by simp) (fun k hk => by
    rcases List.mem_cons.1 hk with rfl | hk
    · exact wpOp_run hi hgi (h1 _ ⟨fun _ _ h => h.out⟩)
    · obtain rfl := List.mem_singleton.1 hk
      exact wpOp_run hj hgj (h2 _ ⟨fun _ _ h => h.out⟩))⟩
theorem AnyG.one {i fuel : Nat} {oi : Oper} {listed : Array Bool} {a : Act} {w : World} (hr : Region.ready .any ops listed = [i]) (hi : ops[i]? = some oi) (hgi : oi.guard = none)
    (h1 : ∀ K : Act → World → Prop, Aside (∀ a w, AnyG P ops Q fuel (listed.setIfInBounds i true) a w → K a w) → oi.wp P a w K Q) : AnyG P ops Q (fuel + 1) listed a w :=
  ⟨wpAny_all hr (by simp) (fun k hk => by
    obtain rfl := List.mem_singleton.1 hk
    exact wpOp_run hi hgi (h1 _ ⟨fun _ _ h => h.out⟩))⟩
/-- What is left goes in one order. -/
theorem AnyG.tail {lst : List Oper} {listed : Array Bool} {a : Act} {w : World} {fuel : Nat} (k : Nat) (hB : Region.seqB .any lst.toArray (lst.drop k).length k listed = true) (hf : (lst.drop k).length = fuel)
    (h : wpList P lst.toArray Q (lst.drop k) a w) : AnyG P lst.toArray Q fuel listed a w :=
  ⟨hf ▸ wpAny_of_seq (md := .any) (lst.drop k) k listed a w (fun j => by simp [List.getElem?_drop]) hB h⟩
theorem wpIn_region_anyG {id : Nat} {lst : List Oper} {a : Act} {w : World} (hm : P.follows .mixedOrders = true) (hd : lst.toArray.all noDefer = true) (hno : ¬ LetsOut Q)
    (h : AnyG P lst.toArray Q lst.toArray.size (Array.replicate lst.toArray.size false) a w.drew) : (Code.region id lst.toArray true).wpIn (Fence.wide.inRound l) n P Q a w :=
  wpIn_region_of_any hm hd hno h.out
end
end Go.Proofs.Ythcjcgagbpfkpaa

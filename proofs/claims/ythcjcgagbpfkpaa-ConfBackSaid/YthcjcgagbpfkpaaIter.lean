/- The iterator over a configuration's places has its contract. -/
import Derived.Test.YthcjcgagbpfkpaaPlaces
import Derived.RangeFuncNested
import Derived.RangeFuncBound
import Derived.RangeFuncCalls
import Derived.RangeFuncLeaves
import Derived.Shelf.Abstract
import Derived.Shelf.RegionOpen
import Derived.OwnWalkIn
import Derived.TacticsInMore
import Derived.LoopNIn
import Derived.LoopIn
import Derived.Laws.Tables
namespace Go.Proofs.Ythcjcgagbpfkpaa
set_option linter.unusedVariables false
set_option linter.unusedSimpArgs false
open Go.RowKit Go.Shelf
attribute [local go_sem] Oper.semAt_some

/-- What has come when k rounds are over. -/
def upto9 (k : Nat) : List (Fin 9) := (List.finRange 9).take k
theorem upto9_succ {k : Nat} (h : k < 9) : upto9 (k + 1) = upto9 k ++ [⟨k, h⟩] := by
  unfold upto9
  rw [List.take_succ_eq_append_getElem (by simpa using h)]
  simp
theorem upto9_len {k : Nat} (h : k ≤ 9) : (upto9 k).length = k := by simp [upto9, h]
theorem upto9_all : upto9 9 = List.finRange 9 := List.take_of_length_le (by simp)

/-- What yield is handed. -/
def encP (b : Nat) (x : Fin 9) : Array Value := #[.int .i64 (x.val : Nat), .agg #[.pointer (some ⟨b, x.val, none⟩), .int .i64 (leastOf x.val), .int .i64 (mostOf x.val)]]

theorem idx175 (b k : Nat) (hk : k < 9) (w : World) : (Instr.index 175 (.agg (placeCells b)) (.int .i64 (k : Nat))).run Try.prog w =
    .ok (.agg #[.pointer (some ⟨b, k, none⟩), .int .i64 (leastOf k), .int .i64 (mostOf k)]) w := by
  obtain rfl | rfl | rfl | rfl | rfl | rfl | rfl | rfl | rfl : k = 0 ∨ k = 1 ∨ k = 2 ∨ k = 3 ∨ k = 4 ∨ k = 5 ∨ k = 6 ∨ k = 7 ∨ k = 8 := by omega
  all_goals kernel_rfl

section
variable {F : Fence} {n : Nat} {P : Program} {ops : Array Oper} {rest : List Oper} {o : Oper} {a : Act} {w : World} {Q : Exit → Act → World → Prop}
theorem wpListIn_load_row (hgd : o.guard = none) (ty : TypeId) (x : Operand) (ho : o.op = .load ty x)
    (g : Nat) (hx : a.eval x = .pointer (some ⟨g, 0, none⟩)) (t : TypeId) (cs : Array Value) (fr : Nat × Nat) (d : TypeDesc) (hg : w.heap[g]? = some (.cells cs t fr))
    (hu : P.underlying ty = some d) (hd : (match d with | .struct _ | .array _ _ => true | _ => false) = true) (hi : (P.info? ty).map (·.size) = some cs.size)
    (h : wpListIn F n P ops Q rest (a.put o.dst (.agg cs)) w) : wpListIn F n P ops Q (o :: rest) a w :=
  wpListIn_plain hgd fun K hK => by
    refine ⟨fun f hf => by simp [Oper.about, ho] at hf, ?_⟩
    rw [Oper.semAt_eq _ _ _ (fun c hc => by rw [ho] at hc; cases hc)]
    unfold execOp
    simp only [ho, hx, Instr.loadAt, Instr.sureAddr, Sem.run_bind, Sem.run_pure, Result.andThen_ok, run_loadVar_row w g t ty cs fr d hg hu hd hi, Oper.uponIn]
    exact hK _ _ h
theorem wpListIn_store_whole (hgd : o.guard = none) (t : TypeId) (x y : Operand) (ho : o.op = .store t x y) (g : Nat) (c c' : Array Value)
    (hx : a.eval x = .pointer (some ⟨g, 0, none⟩)) (hy : a.eval y = .agg c') (hg : Whole w g t c)
    (hi : (P.info? t).map (·.size) = some c'.size) (hoc : c.size = c'.size) (h1 : c'.all (·.oneCell') = true)
    (h : wpListIn F n P ops Q rest (a.put o.dst undef) (w.setRow g c')) : wpListIn F n P ops Q (o :: rest) a w :=
  wpListIn_plain hgd fun K hK => by
    refine ⟨fun f hf => by simp [Oper.about, ho] at hf, ?_⟩
    rw [Oper.semAt_eq _ _ _ (fun c hc => by rw [ho] at hc; cases hc)]
    unfold execOp
    simp only [ho, hx, hy, Instr.storeAt, Instr.sureAddr, Sem.run_bind, Sem.run_pure, Result.andThen_ok, run_storeVar_row w g t t c c' hg hi hoc h1, Oper.uponIn]
    exact hK _ _ h
theorem setRow_whole {t : TypeId} {g : Nat} {c : Array Value} (c' : Array Value) (hg : Whole w g t c) : Whole (w.setRow g c') g t c' := by
  unfold Whole at hg ⊢
  simp [World.setRow, Array.getElem?_modify, hg]
theorem setRow_keeps (w : World) (g : Nat) (c' : Array Value) : Keeps [g] w (w.setRow g c') :=
  ⟨rfl, rfl, rfl, by simp [World.setRow], fun k _ hk => by
    have : ¬ g = k := fun e => hk (by simp [e])
    simp [World.setRow, Array.getElem?_modify, this]⟩
theorem wpListIn_index (hgd : o.guard = none) (ty : TypeId) (x y : Operand) (ho : o.op = .index ty x y) (v : Value)
    (hv : (Instr.index ty (a.eval x) (a.eval y)).run P w = .ok v w)
    (h : wpListIn F n P ops Q rest (a.put o.dst v) w) : wpListIn F n P ops Q (o :: rest) a w :=
  wpListIn_plain hgd fun K hK => by
    refine ⟨fun f hf => by simp [Oper.about, ho] at hf, ?_⟩
    rw [Oper.semAt_eq _ _ _ (fun c hc => by rw [ho] at hc; cases hc)]
    unfold execOp
    simp only [ho, Sem.run_bind, Sem.run_pure, Result.andThen_ok, hv, Oper.uponIn]
    exact hK _ _ h
end

set_option maxRecDepth 100000 in
set_option maxHeartbeats 4000000 in
theorem iter_in (F : Fence) (n : Nat) (h112 : F.fn 112) (hro : F.round = none) (hn : 1 ≤ n) (l g b B : Nat) (J Jx : List (Fin 9) → World → Prop) (hJ : AbidesFrom B J)
    (hY : ∀ pre x W, J pre W → pre.length < 9 → YieldAt F (n - 1) Try.prog l (encP b x) W fun e W' =>
      (e = .returned (.bool true) ∧ J (pre ++ [x]) W') ∨ (e = .returned (.bool false) ∧ Jx (pre ++ [x]) W'))
    (W : World) (hg : Whole W g 175 (placeCells b)) (h0 : J [] W) :
    CallsIn F n Try.prog 112 #[.func (.yield l) #[] #[], .pointer (some ⟨g, 0, none⟩)] W fun e W' => (∃ v, e = .returned v) ∧
      ((∃ ys, ys = List.finRange 9 ∧ J ys W') ∨ (∃ pre, Jx pre W')) := by
  refine callsIn_of_wp Try.func112 rfl h112 ?_ hro
  simp only [Try.ntmps112, List.size_toArray, List.length_cons, List.length_nil, Nat.reduceAdd, Nat.reduceSub, Array.replicate_succ, Array.replicate_zero, List.push_toArray, List.append_toArray, List.nil_append, List.cons_append]
  gi_wp2_with (refine wpListIn_load_row rfl 175 _ rfl g rfl 175 (placeCells b) (0, 0) _ hg Try.underlying175 rfl (by kernel_rfl) ?_)
  gi_loopw [6] (fun i wr => ∃ k : Nat, k ≤ 9 ∧ i = .int .i64 k ∧ J (upto9 k) wr) (fun i _ => 9 - (intOf i).toNat)
  case atStart => exact ⟨0, Nat.zero_le _, rfl, h0⟩
  case round =>
    obtain ⟨k, hk, rfl, hJs⟩ := hrel
    by_cases hlt : k < 9
    · obtain ⟨fn, tmps, assign, body, hy, hR⟩ := hY _ ⟨k, hlt⟩ (wr.alloc (.cells #[.pointer (some ⟨b, k, none⟩), .int .i64 (leastOf k), .int .i64 (mostOf k)] 165)) (hJ _ _ _ none hJs (World.grownBy_alloc wr _ none) (fun r e => by cases e)) (by rw [upto9_len hk]; exact hlt)
      simp only [encP] at hy
      gi_wp2_with (refine wpListIn_index rfl 175 _ _ rfl _ (idx175 b k hlt _) ?_)
      refine hR.mono ?_
      rintro e W3 (⟨rfl, hJ3⟩ | ⟨rfl, hJx3⟩)
      · gi_wp2
        go_roundw
        case rel => exact ⟨k + 1, by omega, by go_num, by rw [upto9_succ hlt]; exact hJ3⟩
        case measure => simp [intOf]; omega
      · gi_wp2
        refine bodyPost_ret (results_none rfl _ _ _) rfl ?_
        exact ⟨⟨_, rfl⟩, .inr ⟨_, hJx3⟩⟩
    · obtain rfl : k = 9 := by omega
      gi_wp2
      go_end0
      exact ⟨⟨_, rfl⟩, .inl ⟨_, upto9_all ▸ rfl, hJs⟩⟩

/-- The iterator's contract in the callers' form. -/
theorem iter_stops (F : Fence) (n : Nat) (h112 : F.fn 112) (hro : F.round = none) (hn : 1 ≤ n) (g b : Nat) (w : World) (hg : Whole w g 175 (placeCells b)) :
    SeqStopsK F n Try.prog 112 #[.pointer (some ⟨g, 0, none⟩)] (encP b) (fun _ _ => True) (fun ys => ys = List.finRange 9) (fun _ => True) 9 w := fun l J Jx W hW hJ _ hY h0 => by
  refine (iter_in F n h112 hro hn l g b W.heap.size J Jx hJ (fun pre x W1 h1 h2 => ?_) W ((hW.block g hg.lt).trans hg) h0).mono ?_
  · obtain ⟨fn, tmps, assign, body, hy, hR⟩ := hY pre x W1 h1 h2
    exact ⟨fn, tmps, assign, body, hy, hR.mono (fun e w' hr => by rcases hr with ⟨a, b, _⟩ | h; exact .inl ⟨a, b⟩; exact .inr h)⟩
  · rintro e W' ⟨hv, h | ⟨pre, hp⟩⟩
    · exact ⟨hv, .inl h⟩
    · exact ⟨hv, .inr ⟨pre, trivial, hp⟩⟩
end Go.Proofs.Ythcjcgagbpfkpaa

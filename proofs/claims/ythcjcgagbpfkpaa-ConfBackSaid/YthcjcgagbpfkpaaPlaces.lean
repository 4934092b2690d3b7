/- The configuration's places: what conf.places makes. -/
import Derived.Test.YthcjcgagbpfkpaaPure
namespace Go.Proofs.Ythcjcgagbpfkpaa
set_option linter.unusedVariables false
set_option linter.unusedSimpArgs false
open Go.RowKit

/-- A number's least and most. -/
def leastOf (i : Nat) : Int := if i = 0 then 1040 else 0
def mostOf (i : Nat) : Int := if i = 6 then 16 else if i = 4 ∨ i = 5 then 64 else 1048576

/-- The cells of the table of places. -/
def placeCells (b : Nat) : Array Value :=
  #[.pointer (some ⟨b, 0, none⟩), .int .i64 1040, .int .i64 1048576, .pointer (some ⟨b, 1, none⟩), .int .i64 0, .int .i64 1048576, .pointer (some ⟨b, 2, none⟩), .int .i64 0, .int .i64 1048576,
    .pointer (some ⟨b, 3, none⟩), .int .i64 0, .int .i64 1048576, .pointer (some ⟨b, 4, none⟩), .int .i64 0, .int .i64 64, .pointer (some ⟨b, 5, none⟩), .int .i64 0, .int .i64 64,
    .pointer (some ⟨b, 6, none⟩), .int .i64 0, .int .i64 16, .pointer (some ⟨b, 7, none⟩), .int .i64 0, .int .i64 1048576, .pointer (some ⟨b, 8, none⟩), .int .i64 0, .int .i64 1048576]

set_option maxRecDepth 8000 in
set_option maxHeartbeats 2000000 in
theorem places_calls (b : Nat) (w : World) :
    Calls Try.prog 102 #[.pointer (some ⟨b, 0, none⟩)] w fun e w' => ∃ g, e = .returned (.func (.func 112) #[] #[.pointer (some ⟨g, 0, none⟩)]) ∧ w.heap.size ≤ g ∧ Whole w' g 175 (placeCells b) ∧ Keeps [] w w' := by
  go_enter Try.func102, Try.ntmps102
  go_wp2_with fail
  refine wp_region_pure_tail 37 (by kernel_rfl) (by kernel_rfl) (fun c d v a w h => by cases d <;> exact h) ?_
  simp only [List.take_succ_cons, List.take_zero, List.drop_succ_cons, List.drop_zero]
  repeat (refine wpPure_step _ rfl (fun w => by go_simp; exact rfl) ?_; go_simp)
  refine wpPure_nil ?_
  all_goals as_aux_lemma =>
    obtain ⟨w2, hw2⟩ : ∃ w2, w2 = w.drew := ⟨_, rfl⟩
    rw [← hw2]
    have hs : Aside (w2.heap.size = w.heap.size) := ⟨by rw [hw2]; rfl⟩
    have K2 : Keeps [] w w2 := hw2 ▸ (Keeps.refl [] w).drew
    clear hw2
    go_wp2_with (refine wpList_store_new rfl 175 _ _ rfl _ _ rfl rfl (by kernel_rfl) (by kernel_rfl) (by kernel_rfl) ?_)
    go_ret
    exact ⟨_, rfl, Nat.le_of_eq hs.out.symm, Whole.new w2 175 _, K2.alloc _⟩
end Go.Proofs.Ythcjcgagbpfkpaa

/- The dice: New, Put, Take, Left over the ring in memory do what a queue of at most 64 numbers does. -/
import Derived.Test.YthcjcgagbpfkpaaKit
namespace Go.Proofs.Ythcjcgagbpfkpaa
open Go.RowKit

/-- Block R holds dice whose numbers are q, in order. -/
structure DiceAt (w : World) (R : Nat) (q : List Nat) (cs : Array Value) (first : Nat) : Prop where
  blk : Whole w R 54 cs
  size : cs.size = 66
  lt64 : first < 64
  len : q.length ≤ 64
  c64 : cs[64]? = some (.int .i64 first)
  c65 : cs[65]? = some (.int .i64 q.length)
  ring : ∀ i, i < q.length → cs[(first + i) % 64]? = some (.int .u64 (q.getD i 0 : Nat))

def Dice (w : World) (R : Nat) (q : List Nat) : Prop := ∃ cs first, DiceAt w R q cs first

theorem Dice.keeps {w w' : World} {R : Nat} {q : List Nat} {L : List Nat} (h : Dice w R q) (k : Keeps L w w') (hR : R ∉ L) : Dice w' R q := by
  obtain ⟨cs, first, hd⟩ := h
  exact ⟨cs, first, { hd with blk := k.whole hd.blk hR }⟩
theorem Dice.lt {w : World} {R : Nat} {q : List Nat} (h : Dice w R q) : R < w.heap.size := by
  obtain ⟨cs, first, hd⟩ := h
  exact hd.blk.lt
theorem Dice.len {w : World} {R : Nat} {q : List Nat} (h : Dice w R q) : q.length ≤ 64 := by
  obtain ⟨cs, first, hd⟩ := h
  exact hd.len

def diceZero : Array Value := (List.replicate 64 (Value.int .u64 0) ++ [Value.int .i64 0, Value.int .i64 0]).toArray
theorem Dice.new (w : World) : Dice (w.alloc (.cells diceZero 54)) w.heap.size [] :=
  ⟨diceZero, 0, Whole.new _ _ _, rfl, by omega, by simp, rfl, rfl, fun i hi => by simp at hi⟩

theorem set_at (cs : Array Value) (i j : Nat) (u : Value) (hi : i < cs.size) : (cs.setIfInBounds i u)[j]? = if i = j then some u else cs[j]? := by
  rw [Array.getElem?_setIfInBounds]
  by_cases h : i = j
  · rw [if_pos h, if_pos h, if_pos (by omega)]
  · rw [if_neg h, if_neg h]

theorem ring_ne {f i n : Nat} (hi : i < n) (hn : n < 64) : (f + n) % 64 ≠ (f + i) % 64 := by omega

theorem DiceAt.put {w w' : World} {R : Nat} {q : List Nat} {cs : Array Value} {first x : Nat} (h : DiceAt w R q cs first) (hn : q.length < 64)
    (hw : Whole w' R 54 ((cs.setIfInBounds ((first + q.length) % 64) (.int .u64 x)).setIfInBounds 65 (.int .i64 (q.length + 1)))) : Dice w' R (q ++ [x]) := by
  obtain ⟨hb, hs, hf, hl, h4, h5, hr⟩ := h
  refine ⟨_, first, hw, by simp [hs], hf, by simp; omega, ?_, ?_, ?_⟩
  · rw [set_at _ _ _ _ (by simp; omega), if_neg (by omega), set_at _ _ _ _ (by omega), if_neg (by omega), h4]
  · rw [set_at _ _ _ _ (by simp; omega), if_pos rfl]
    simp
  · intro i hi
    rw [set_at _ _ _ _ (by simp; omega), if_neg (by omega), set_at _ _ _ _ (by omega)]
    simp at hi
    by_cases he : i = q.length
    · subst he
      rw [if_pos rfl]
      simp
    · rw [if_neg (ring_ne (by omega) hn), hr i (by omega)]
      simp [List.getElem?_append_left (show i < q.length by omega)]

theorem DiceAt.take {w w' : World} {R : Nat} {q : List Nat} {cs : Array Value} {first x : Nat} (h : DiceAt w R (x :: q) cs first)
    (hw : Whole w' R 54 ((cs.setIfInBounds 64 (.int .i64 ((first + 1) % 64 : Nat))).setIfInBounds 65 (.int .i64 q.length))) : Dice w' R q := by
  obtain ⟨hb, hs, hf, hl, h4, h5, hr⟩ := h
  simp at hl
  refine ⟨_, (first + 1) % 64, hw, by simp [hs], by omega, by omega, ?_, ?_, ?_⟩
  · rw [set_at _ _ _ _ (by simp; omega), if_neg (by omega), set_at _ _ _ _ (by omega), if_pos rfl]
  · rw [set_at _ _ _ _ (by simp; omega), if_pos rfl]
  · intro i hi
    rw [set_at _ _ _ _ (by simp; omega), if_neg (by omega), set_at _ _ _ _ (by omega), if_neg (by omega)]
    have := hr (i + 1) (by simp; omega)
    rw [show ((first + 1) % 64 + i) % 64 = (first + (i + 1)) % 64 by omega, this]
    simp

set_option maxHeartbeats 1000000 in
theorem dPut_yes (R : Nat) (q : List Nat) (x : Nat) (w : World) (h : Dice w R q) (hn : q.length < 64) :
    Calls Try.prog 36 #[.pointer (some ⟨R, 0, none⟩), .int .u64 x] w fun e w' => e = .returned (.bool true) ∧ Dice w' R (q ++ [x]) ∧ Keeps [R] w w' := by
  obtain ⟨cs, first, hd⟩ := h
  have HD := Aside.mk hd
  obtain ⟨n, hnl⟩ : ∃ n, n = q.length := ⟨_, rfl⟩
  have h64 : w.cell? ⟨R, 64, none⟩ = some (.int .i64 first) := (hd.blk.cell 64).trans hd.c64
  have h65 : w.cell? ⟨R, 65, none⟩ = some (.int .i64 n) := (hd.blk.cell 65).trans (hnl ▸ hd.c65)
  have hf := hd.lt64
  have hi : (first + n) % 64 < cs.size := by have := hd.size; omega
  obtain ⟨v, hv⟩ : ∃ v, cs[(first + n) % 64]? = some v := ⟨_, Array.getElem?_eq_getElem hi⟩
  have hx : w.cell? ⟨R, (first + n) % 64, none⟩ = some v := (hd.blk.cell _).trans hv
  have hz : ∀ j, w.frozen? ⟨R, j, none⟩ = false := hd.blk.frozen
  have hn' : n < 64 := hnl ▸ hn
  have h65' : (w.setCell ⟨R, (first + n) % 64, none⟩ (.int .u64 x)).cell? ⟨R, 65, none⟩ = some (.int .i64 n) := by
    rw [World.cell?_setCell_other _ _ _ _ (by simp <;> omega)]
    exact h65
  have hb0 : ((n : Int) == 64) = false := by rw [beq_eq_false_iff_ne]; omega
  have HL := Aside.mk hnl
  clear hd hv hi hnl
  go_enter Try.func36, Try.ntmps36
  go_wp2
  go_region
  go_wp2
  go_ret
  have hd := HD.out
  have hnl := HL.out
  subst hnl
  exact ⟨rfl, hd.put hn ((hd.blk.set_ _ _).set_ _ _), ((((Keeps.refl _ _).setCell (.inl (by simp)) _).drew).setCell (.inl (by simp)) _)⟩


theorem dPut_nil (x : Nat) (w : World) : Calls Try.prog 36 #[.pointer none, .int .u64 x] w fun e w' => e = .returned (.bool false) ∧ w = w' := by
  go_enter Try.func36, Try.ntmps36
  go_wp2
  go_ret
  exact ⟨rfl, rfl⟩

theorem dPut_full (R : Nat) (q : List Nat) (x : Nat) (w : World) (h : Dice w R q) (hn : q.length = 64) :
    Calls Try.prog 36 #[.pointer (some ⟨R, 0, none⟩), .int .u64 x] w fun e w' => e = .returned (.bool false) ∧ w = w' := by
  obtain ⟨cs, first, hd⟩ := h
  have h65 : w.cell? ⟨R, 65, none⟩ = some (.int .i64 64) := (hd.blk.cell 65).trans (by rw [hd.c65, hn]; rfl)
  clear hd hn
  go_enter Try.func36, Try.ntmps36
  go_wp2
  go_ret
  exact ⟨rfl, rfl⟩

theorem dLeft_nil (w : World) : Calls Try.prog 37 #[.pointer none] w fun e w' => e = .returned (.int .i64 0) ∧ w = w' := by
  go_enter Try.func37, Try.ntmps37
  go_wp2
  go_ret
  exact ⟨rfl, rfl⟩

theorem dLeft (R : Nat) (q : List Nat) (w : World) (h : Dice w R q) :
    Calls Try.prog 37 #[.pointer (some ⟨R, 0, none⟩)] w fun e w' => e = .returned (.int .i64 q.length) ∧ w = w' := by
  obtain ⟨cs, first, hd⟩ := h
  have h65 : w.cell? ⟨R, 65, none⟩ = some (.int .i64 q.length) := (hd.blk.cell 65).trans hd.c65
  clear hd
  go_enter Try.func37, Try.ntmps37
  go_wp2
  go_ret
  exact ⟨rfl, rfl⟩

theorem dNew (w : World) : Calls Try.prog 34 #[] w fun e w' => e = .returned (.pointer (some ⟨w.heap.size, 0, none⟩)) ∧ Dice w' w.heap.size [] ∧ Keeps [] w w' := by
  go_enter Try.func34, Try.ntmps34
  go_wp2
  go_ret
  exact ⟨rfl, Dice.new w, (Keeps.refl _ _).alloc _⟩

theorem dTake_nil (w : World) : Calls Try.prog 35 #[.pointer none] w fun e w' => e = .returned (.tuple #[.int .u64 0, .bool false]) ∧ w = w' := by
  go_enter Try.func35, Try.ntmps35
  go_wp2
  go_ret2
  exact ⟨rfl, rfl⟩

theorem dTake_no (R : Nat) (w : World) (h : Dice w R []) :
    Calls Try.prog 35 #[.pointer (some ⟨R, 0, none⟩)] w fun e w' => e = .returned (.tuple #[.int .u64 0, .bool false]) ∧ w = w' := by
  obtain ⟨cs, first, hd⟩ := h
  have h65 : w.cell? ⟨R, 65, none⟩ = some (.int .i64 0) := (hd.blk.cell 65).trans hd.c65
  clear hd
  go_enter Try.func35, Try.ntmps35
  go_wp2
  go_ret2
  exact ⟨rfl, rfl⟩

set_option maxHeartbeats 1000000 in
theorem dTake_yes (R : Nat) (q : List Nat) (x : Nat) (w : World) (h : Dice w R (x :: q)) :
    Calls Try.prog 35 #[.pointer (some ⟨R, 0, none⟩)] w fun e w' => e = .returned (.tuple #[.int .u64 x, .bool true]) ∧ Dice w' R q ∧ Keeps [R] w w' := by
  obtain ⟨cs, first, hd⟩ := h
  have HD := Aside.mk hd
  obtain ⟨n, hnl⟩ : ∃ n, n = q.length := ⟨_, rfl⟩
  have h64 : w.cell? ⟨R, 64, none⟩ = some (.int .i64 first) := (hd.blk.cell 64).trans hd.c64
  have h65 : w.cell? ⟨R, 65, none⟩ = some (.int .i64 (n + 1)) := (hd.blk.cell 65).trans (by rw [hd.c65, hnl]; rfl)
  have hf := hd.lt64
  have hx : w.cell? ⟨R, first, none⟩ = some (.int .u64 x) := by
    have := hd.ring 0 (by simp)
    rw [show (first + 0) % 64 = first by omega] at this
    exact (hd.blk.cell _).trans this
  have hz : ∀ j, w.frozen? ⟨R, j, none⟩ = false := hd.blk.frozen
  have hn' : n < 64 := by have := hd.len; simp at this; omega
  have h65' : ∀ u, (w.setCell ⟨R, 64, none⟩ u).cell? ⟨R, 65, none⟩ = some (.int .i64 (n + 1)) := fun u => by
    rw [World.cell?_setCell_other _ _ _ _ (by simp)]
    exact h65
  have hb0 : ((n : Int) + 1 == 0) = false := by rw [beq_eq_false_iff_ne]; omega
  have HL := Aside.mk hnl
  clear hd hnl
  go_enter Try.func35, Try.ntmps35
  go_wp2
  go_region
  go_wp2
  go_ret2
  have hd := HD.out
  have hnl := HL.out
  subst hnl
  refine ⟨rfl, hd.take ?_, ((((Keeps.refl _ _).setCell (.inl (by simp)) _)).setCell (.inl (by simp)) _).drew⟩
  have := ((hd.blk.set_ 64 (.int .i64 ((first + 1) % 64 : Nat))).set_ 65 (.int .i64 q.length)).drew
  simpa using this

end Go.Proofs.Ythcjcgagbpfkpaa

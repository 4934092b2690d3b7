/- CallTakes: which call, bind, schema and cancel any bytes are the body of. -/
import Derived.Test.YthcjcgagbpfkpaaRTake
import Derived.Test.YthcjcgagbpfkpaaCallPuts
namespace Go.Proofs.Ythcjcgagbpfkpaa
set_option linter.unusedVariables false
set_option linter.unusedSimpArgs false
open Go.RowKit

set_option maxRecDepth 4000 in
theorem theirs_calls (id : Nat) (wt nm : Int) (s : ByteArray) (w : World) :
    Calls Try.prog 88 #[.agg #[.int .u64 id, .int .i64 wt, .int .i64 nm, .string s]] w fun e w' => e = .returned (.agg #[.int .u64 id, .int .i64 wt, .int .i64 nm, .string s]) ∧ Keeps [] w w' := by
  go_enter Try.func88, Try.ntmps88
  go_wp2
  exact bodyPost_ret (v := .agg #[.int .u64 id, .int .i64 wt, .int .i64 nm, .string s]) (by simp [results, Try.results88, go_sem]) rfl ⟨rfl, ((Keeps.refl _ _).alloc _).alloc _⟩

set_option maxRecDepth 8000 in
set_option maxHeartbeats 8000000 in
theorem callTakes_walk (b : ByteArray) (hb0 : b.size ≤ 140737488351232) (w : World) :
    Calls Try.prog 19 #[.string b] w fun e w' => e = .returned (.bool true) ∧ Keeps [] w w' := by
  have hb : b.size ≤ 1152921504606846976 := by omega
  obtain ⟨⟨c1, c2, c3, c4⟩, ce, hc⟩ := pair_ex (callT b)
  obtain ⟨⟨m1, m2, m3, m4, m5⟩, me, hm⟩ := pair_ex (bindT b)
  obtain ⟨⟨s1, s2⟩, se, hs⟩ := pair_ex (schemaT b)
  obtain ⟨x1, xe, hx⟩ := pair_ex (cancelT b)
  have K1 := Aside.mk (fun w => takeCall_calls b hb hc w)
  have K2 := Aside.mk (fun w => rTakeCall_calls b hb hc w)
  have K3 := Aside.mk (fun w => takeBind_calls b hb hm w)
  have K4 := Aside.mk (fun w => rTakeBind_calls b hb hm w)
  have K5 := Aside.mk (fun w => takeSchema_calls b hb hs w)
  have K6 := Aside.mk (fun w => rTakeSchema_calls b hb hs w)
  have K7 := Aside.mk (fun w => takeCancel_calls b hb hx w)
  have K8 := Aside.mk (fun w => rTakeCancel_calls b hb hx w)
  clear hc hm hs hx hb hb0
  go_enter Try.func19, Try.ntmps19
  go_wp2_with fail
  refine (K1.out _).mono ?_
  rintro e1 w1 ⟨rfl, k1⟩
  have a1 : Whole (w1.alloc (.cells #[.int .u64 c1, .int .i64 c2, .int .i64 c3, .string c4] 28)) w1.heap.size 28 _ := Whole.new _ _ _
  have h1 := k1.alloc (.cells #[.int .u64 c1, .int .i64 c2, .int .i64 c3, .string c4] 28)
  clear k1
  go_wp2_with fail
  refine (K2.out _).mono ?_
  rintro e1 w2 ⟨rfl, k2⟩
  have a2 := (k2.whole a1 (by simp)).alloc (.cells #[.int .u64 c1, .int .i64 c2, .int .i64 c3, .string c4] 24)
  have d2 : Whole (w2.alloc (.cells #[.int .u64 c1, .int .i64 c2, .int .i64 c3, .string c4] 24)) w2.heap.size 24 _ := Whole.new _ _ _
  have h2 := (h1.nil_trans k2).alloc (.cells #[.int .u64 c1, .int .i64 c2, .int .i64 c3, .string c4] 24)
  clear k2 a1 h1
  go_wp2_with fail
  refine (K3.out _).mono ?_
  rintro e1 w3 ⟨rfl, k3⟩
  have a3 := (k3.whole a2 (by simp)).alloc (.cells #[.int .u64 m1, .int .i64 m2, .string m3, .string m4, .int .i64 m5] 32)
  have d3 := (k3.whole d2 (by simp)).alloc (.cells #[.int .u64 m1, .int .i64 m2, .string m3, .string m4, .int .i64 m5] 32)
  have m3' : Whole (w3.alloc (.cells #[.int .u64 m1, .int .i64 m2, .string m3, .string m4, .int .i64 m5] 32)) w3.heap.size 32 _ := Whole.new _ _ _
  have h3 := (h2.nil_trans k3).alloc (.cells #[.int .u64 m1, .int .i64 m2, .string m3, .string m4, .int .i64 m5] 32)
  clear k3 a2 d2 h2
  go_wp2_with fail
  refine (K4.out _).mono ?_
  rintro e1 w4 ⟨rfl, k4⟩
  have a4 := (k4.whole a3 (by simp)).alloc (.cells #[.int .u64 m1, .int .i64 m2, .string m3, .string m4, .int .i64 m5] 26)
  have d4 := (k4.whole d3 (by simp)).alloc (.cells #[.int .u64 m1, .int .i64 m2, .string m3, .string m4, .int .i64 m5] 26)
  have m4' := (k4.whole m3' (by simp)).alloc (.cells #[.int .u64 m1, .int .i64 m2, .string m3, .string m4, .int .i64 m5] 26)
  have n4' : Whole (w4.alloc (.cells #[.int .u64 m1, .int .i64 m2, .string m3, .string m4, .int .i64 m5] 26)) w4.heap.size 26 _ := Whole.new _ _ _
  have h4 := (h3.nil_trans k4).alloc (.cells #[.int .u64 m1, .int .i64 m2, .string m3, .string m4, .int .i64 m5] 26)
  clear k4 a3 d3 m3' h3
  go_wp2_with fail
  refine (K5.out _).mono ?_
  rintro e1 w5 ⟨rfl, k5⟩
  go_wp2_with fail
  refine (K6.out _).mono ?_
  rintro e1 w6 ⟨rfl, k6⟩
  go_wp2_with fail
  refine (K7.out _).mono ?_
  rintro e1 w7 ⟨rfl, k7⟩
  go_wp2_with fail
  refine (K8.out _).mono ?_
  rintro e1 w8 ⟨rfl, k8⟩
  have kk := ((k5.nil_trans k6).nil_trans k7).nil_trans k8
  have h8 := h4.nil_trans kk
  have a8 := kk.whole a4 (by simp)
  have d8 := kk.whole d4 (by simp)
  have m8 := kk.whole m4' (by simp)
  have n8 := kk.whole n4' (by simp)
  have q0 : w8.cell? ⟨w1.heap.size, 0, none⟩ = some (.int .u64 c1) := a8.cell 0
  have q1 : w8.cell? ⟨w1.heap.size, 1, none⟩ = some (.int .i64 c2) := a8.cell 1
  have q2 : w8.cell? ⟨w1.heap.size, 2, none⟩ = some (.int .i64 c3) := a8.cell 2
  have q3 : w8.cell? ⟨w1.heap.size, 3, none⟩ = some (.string c4) := a8.cell 3
  have r0 : w8.cell? ⟨w2.heap.size, 0, none⟩ = some (.int .u64 c1) := d8.cell 0
  have r1 : w8.cell? ⟨w2.heap.size, 1, none⟩ = some (.int .i64 c2) := d8.cell 1
  have r2 : w8.cell? ⟨w2.heap.size, 2, none⟩ = some (.int .i64 c3) := d8.cell 2
  have r3 : w8.cell? ⟨w2.heap.size, 3, none⟩ = some (.string c4) := d8.cell 3
  have s0 : w8.cell? ⟨w3.heap.size, 0, none⟩ = some (.int .u64 m1) := m8.cell 0
  have s1 : w8.cell? ⟨w3.heap.size, 1, none⟩ = some (.int .i64 m2) := m8.cell 1
  have s2 : w8.cell? ⟨w3.heap.size, 2, none⟩ = some (.string m3) := m8.cell 2
  have s3 : w8.cell? ⟨w3.heap.size, 3, none⟩ = some (.string m4) := m8.cell 3
  have s4 : w8.cell? ⟨w3.heap.size, 4, none⟩ = some (.int .i64 m5) := m8.cell 4
  have t0 : w8.cell? ⟨w4.heap.size, 0, none⟩ = some (.int .u64 m1) := n8.cell 0
  have t1 : w8.cell? ⟨w4.heap.size, 1, none⟩ = some (.int .i64 m2) := n8.cell 1
  have t2 : w8.cell? ⟨w4.heap.size, 2, none⟩ = some (.string m3) := n8.cell 2
  have t3 : w8.cell? ⟨w4.heap.size, 3, none⟩ = some (.string m4) := n8.cell 3
  have t4 : w8.cell? ⟨w4.heap.size, 4, none⟩ = some (.int .i64 m5) := n8.cell 4
  clear a4 d4 m4' n4' a8 d8 m8 n8 kk k5 k6 k7 k8 h4 K1 K2 K3 K4 K5 K6 K7 K8
  go_wp2_with fail
  go_region_held3 (fun w' => w'.cell? ⟨w1.heap.size, 0, none⟩ = some (.int .u64 c1) ∧ w'.cell? ⟨w1.heap.size, 1, none⟩ = some (.int .i64 c2) ∧ w'.cell? ⟨w1.heap.size, 2, none⟩ = some (.int .i64 c3) ∧ w'.cell? ⟨w1.heap.size, 3, none⟩ = some (.string c4) ∧
      w'.cell? ⟨w2.heap.size, 0, none⟩ = some (.int .u64 c1) ∧ w'.cell? ⟨w2.heap.size, 1, none⟩ = some (.int .i64 c2) ∧ w'.cell? ⟨w2.heap.size, 2, none⟩ = some (.int .i64 c3) ∧ w'.cell? ⟨w2.heap.size, 3, none⟩ = some (.string c4) ∧
      w'.cell? ⟨w3.heap.size, 0, none⟩ = some (.int .u64 m1) ∧ w'.cell? ⟨w3.heap.size, 1, none⟩ = some (.int .i64 m2) ∧ w'.cell? ⟨w3.heap.size, 2, none⟩ = some (.string m3) ∧ w'.cell? ⟨w3.heap.size, 3, none⟩ = some (.string m4) ∧ w'.cell? ⟨w3.heap.size, 4, none⟩ = some (.int .i64 m5) ∧
      w'.cell? ⟨w4.heap.size, 0, none⟩ = some (.int .u64 m1) ∧ w'.cell? ⟨w4.heap.size, 1, none⟩ = some (.int .i64 m2) ∧ w'.cell? ⟨w4.heap.size, 2, none⟩ = some (.string m3) ∧ w'.cell? ⟨w4.heap.size, 3, none⟩ = some (.string m4) ∧ w'.cell? ⟨w4.heap.size, 4, none⟩ = some (.int .i64 m5) ∧ Keeps [] w w')
    (first | ((try dsimp only); go_split_ands; (repeat' apply And.intro) <;> first | assumption | (exact Keeps.cell (by assumption) (by assumption) (by simp)) | (exact Keeps.nil_trans (by assumption) (by assumption)) | (exact Keeps.drew (by assumption)) | (simp; done) | (simp; assumption)))
    (first
      | (go_at_call 88; refine (theirs_calls c1 c2 c3 c4 _).mono ?_; rintro e w' ⟨rfl, hk⟩)
      | (go_at_call 27; refine (bindOf_calls m1 m2 m3 m4 m5 _).mono ?_; rintro e w' ⟨rfl, hk⟩)
      | (go_at_call 32; refine (awake34 _).mono ?_; rintro e w' ⟨rfl, hk⟩))
  all_goals
    go_split_ands
    go_wp2_with fail
    go_ret
    exact ⟨rfl, by assumption⟩
end Go.Proofs.Ythcjcgagbpfkpaa

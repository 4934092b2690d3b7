/- The bodies of calls, binds, schemas and cancels: the program's and the document's are one text. -/
import Derived.Test.YthcjcgagbpfkpaaRput
import Derived.Deep.DrawnRows
namespace Go.Proofs.Ythcjcgagbpfkpaa
open Go.RowKit
attribute [local go_sem ↓] Go.wp_at_zero Go.wp_at_succ

theorem rPut10 (n : Nat) (hn : n < 18446744073709551616) (w : World) :
    Calls Try.prog 30 #[.int .u64 n] w fun e w' => e = .returned (.string (txt (vput n))) ∧ Keeps [] w w' :=
  rPut_calls 9 n w (Nat.lt_of_lt_of_le hn (by decide)) hn

set_option maxRecDepth 4000 in
theorem number_calls (n : Int) (h1 : n ≤ 9223372036854775807) (w : World) :
    Calls Try.prog 91 #[.int .i64 n] w fun e w' => e = .returned (.string (txt (vput n.toNat))) ∧ Keeps [] w w' := by
  by_cases h0 : 0 ≤ n
  · obtain ⟨m, rfl⟩ := Int.eq_ofNat_of_zero_le h0
    rw [Int.toNat_natCast]
    go_enter Try.func91, Try.ntmps91
    go_wp2_with fail
    refine (vPut_calls m (by omega) _).mono ?_
    rintro e w1 ⟨rfl, hk⟩
    go_wp2_with fail
    go_ret
    exact ⟨rfl, hk⟩
  · rw [show n.toNat = 0 by omega]
    go_enter Try.func91, Try.ntmps91
    go_wp2_with fail
    refine (vPut_calls 0 (by omega) _).mono ?_
    rintro e w1 ⟨rfl, hk⟩
    go_wp2_with fail
    go_ret
    exact ⟨rfl, hk⟩

set_option maxRecDepth 4000 in
theorem rNumber_calls (n : Int) (h1 : n ≤ 9223372036854775807) (w : World) :
    Calls Try.prog 92 #[.int .i64 n] w fun e w' => e = .returned (.string (txt (vput n.toNat))) ∧ Keeps [] w w' := by
  by_cases h0 : 0 ≤ n
  · obtain ⟨m, rfl⟩ := Int.eq_ofNat_of_zero_le h0
    rw [Int.toNat_natCast]
    go_enter Try.func92, Try.ntmps92
    go_wp2_with fail
    refine (rPut10 m (by omega) _).mono ?_
    rintro e w1 ⟨rfl, hk⟩
    go_wp2_with fail
    go_ret
    exact ⟨rfl, hk⟩
  · rw [show n.toNat = 0 by omega]
    go_enter Try.func92, Try.ntmps92
    go_wp2_with fail
    refine (rPut10 0 (by omega) _).mono ?_
    rintro e w1 ⟨rfl, hk⟩
    go_wp2_with fail
    go_ret
    exact ⟨rfl, hk⟩

/-- 2.1: the span of a text. -/
def spanText (s : ByteArray) : ByteArray := txt (vput s.size) ++ s
theorem ba_size (a b : ByteArray) : (a ++ b).size = a.size + b.size := ByteArray.size_append
theorem num_size {n : Nat} (hn : n < 18446744073709551616) : (txt (vput n)).size ≤ 10 := by rw [txt_size]; exact vput_len10 hn

set_option maxRecDepth 4000 in
theorem spanPut_calls (s : ByteArray) (hs : s.size ≤ 9223372036854775000) (w : World) :
    Calls Try.prog 42 #[.string s] w fun e w' => e = .returned (.string (spanText s)) ∧ Keeps [] w w' := by
  have hsum : (txt (vput s.size)).size + s.size ≤ 9223372036854775807 := by have := num_size (n := s.size) (by omega); omega
  go_enter Try.func42, Try.ntmps42
  go_wp2_with fail
  refine (vPut_calls s.size (by omega) _).mono ?_
  rintro e w1 ⟨rfl, hk⟩
  go_wp2_with fail
  go_ret
  exact ⟨rfl, hk⟩

set_option maxRecDepth 4000 in
theorem rSpanPut_calls (s : ByteArray) (hs : s.size ≤ 9223372036854775000) (w : World) :
    Calls Try.prog 43 #[.string s] w fun e w' => e = .returned (.string (spanText s)) ∧ Keeps [] w w' := by
  have hsum : (txt (vput s.size)).size + s.size ≤ 9223372036854775807 := by have := num_size (n := s.size) (by omega); omega
  go_enter Try.func43, Try.ntmps43
  go_wp2_with fail
  refine (rPut10 s.size (by omega) _).mono ?_
  rintro e w1 ⟨rfl, hk⟩
  go_wp2_with fail
  go_ret
  exact ⟨rfl, hk⟩

/-- 34.1: a call's body. -/
def callText (id : Nat) (wt nm : Int) (s : ByteArray) : ByteArray := txt (vput id) ++ txt (vput wt.toNat) ++ txt (vput nm.toNat) ++ s

set_option maxRecDepth 4000 in
set_option maxHeartbeats 2000000 in
theorem putCall_calls (id : Nat) (wt nm : Int) (s : ByteArray) (hid : id < 18446744073709551616) (hw : wt ≤ 9223372036854775807) (hn : nm ≤ 9223372036854775807) (hs : s.size ≤ 140737488351232) (w : World) :
    Calls Try.prog 23 #[.agg #[.int .u64 id, .int .i64 wt, .int .i64 nm, .string s]] w fun e w' => e = .returned (.string (callText id wt nm s)) ∧ Keeps [] w w' := by
  have s1 := num_size (n := id) hid
  have s2 := num_size (n := wt.toNat) (by omega)
  have s3 := num_size (n := nm.toNat) (by omega)
  have g1 : ¬ 9223372036854775807 < (txt (vput id)).size + (txt (vput wt.toNat)).size := by omega
  have g2 : ¬ 9223372036854775807 < (txt (vput id)).size + (txt (vput wt.toNat)).size + (txt (vput nm.toNat)).size := by omega
  have g3 : ¬ 9223372036854775807 < (txt (vput id)).size + (txt (vput wt.toNat)).size + (txt (vput nm.toNat)).size + s.size := by omega
  clear s1 s2 s3
  go_enter Try.func23, Try.ntmps23
  go_wp2_with fail
  go_region_held3 (fun w' => w'.cell? ⟨w.heap.size, 0, none⟩ = some (.int .u64 id) ∧ w'.cell? ⟨w.heap.size, 1, none⟩ = some (.int .i64 wt) ∧ w'.cell? ⟨w.heap.size, 2, none⟩ = some (.int .i64 nm) ∧ w'.cell? ⟨w.heap.size, 3, none⟩ = some (.string s) ∧ Keeps [] w w')
    (first | ((try dsimp only); go_split_ands; (repeat' apply And.intro) <;> first | (simp; done) | assumption | (exact Keeps.cell (by assumption) (by assumption) (by simp)) | (exact Keeps.nil_trans (by assumption) (by assumption)) | (exact ((Keeps.refl _ _).alloc _).drew)))
    (first
      | (go_at_call 90; refine (vPut_calls id hid _).mono ?_; rintro e w' ⟨rfl, hk⟩)
      | (go_at_call 91; refine (number_calls wt hw _).mono ?_; rintro e w' ⟨rfl, hk⟩)
      | (go_at_call 91; refine (number_calls nm hn _).mono ?_; rintro e w' ⟨rfl, hk⟩))
  all_goals
    go_split_ands
    go_wp2_with fail
    go_ret
    exact ⟨rfl, by assumption⟩

set_option maxRecDepth 4000 in
set_option maxHeartbeats 2000000 in
theorem rPutCall_calls (id : Nat) (wt nm : Int) (s : ByteArray) (hid : id < 18446744073709551616) (hw : wt ≤ 9223372036854775807) (hn : nm ≤ 9223372036854775807) (hs : s.size ≤ 140737488351232) (w : World) :
    Calls Try.prog 25 #[.agg #[.int .u64 id, .int .i64 wt, .int .i64 nm, .string s]] w fun e w' => e = .returned (.string (callText id wt nm s)) ∧ Keeps [] w w' := by
  have s1 := num_size (n := id) hid
  have s2 := num_size (n := wt.toNat) (by omega)
  have s3 := num_size (n := nm.toNat) (by omega)
  have g1 : ¬ 9223372036854775807 < (txt (vput id)).size + (txt (vput wt.toNat)).size := by omega
  have g2 : ¬ 9223372036854775807 < (txt (vput id)).size + (txt (vput wt.toNat)).size + (txt (vput nm.toNat)).size := by omega
  have g3 : ¬ 9223372036854775807 < (txt (vput id)).size + (txt (vput wt.toNat)).size + (txt (vput nm.toNat)).size + s.size := by omega
  clear s1 s2 s3
  go_enter Try.func25, Try.ntmps25
  go_wp2_with fail
  go_region_held3 (fun w' => w'.cell? ⟨w.heap.size, 0, none⟩ = some (.int .u64 id) ∧ w'.cell? ⟨w.heap.size, 1, none⟩ = some (.int .i64 wt) ∧ w'.cell? ⟨w.heap.size, 2, none⟩ = some (.int .i64 nm) ∧ w'.cell? ⟨w.heap.size, 3, none⟩ = some (.string s) ∧ Keeps [] w w')
    (first | ((try dsimp only); go_split_ands; (repeat' apply And.intro) <;> first | (simp; done) | assumption | (exact Keeps.cell (by assumption) (by assumption) (by simp)) | (exact Keeps.nil_trans (by assumption) (by assumption)) | (exact ((Keeps.refl _ _).alloc _).drew)))
    (first
      | (go_at_call 30; refine (rPut10 id hid _).mono ?_; rintro e w' ⟨rfl, hk⟩)
      | (go_at_call 92; refine (rNumber_calls wt hw _).mono ?_; rintro e w' ⟨rfl, hk⟩)
      | (go_at_call 92; refine (rNumber_calls nm hn _).mono ?_; rintro e w' ⟨rfl, hk⟩))
  all_goals
    go_split_ands
    go_wp2_with fail
    go_ret
    exact ⟨rfl, by assumption⟩

/-- 34.1: a bind's body. -/
def bindText (id : Nat) (num : Int) (sv mt : ByteArray) (op : Int) : ByteArray := txt (vput id) ++ txt (vput num.toNat) ++ spanText sv ++ spanText mt ++ txt (vput op.toNat)
theorem span_size {s : ByteArray} (hs : s.size ≤ 140737488351232) : (spanText s).size ≤ 140737488351232 + 10 := by
  have := num_size (n := s.size) (by omega)
  rw [spanText, ba_size]
  omega

set_option maxRecDepth 4000 in
set_option maxHeartbeats 2000000 in
theorem putBind_calls (id : Nat) (num : Int) (sv mt : ByteArray) (op : Int) (hid : id < 18446744073709551616) (hn : num ≤ 9223372036854775807) (hsv : sv.size ≤ 140737488351232) (hmt : mt.size ≤ 140737488351232) (ho : op ≤ 9223372036854775807) (w : World) :
    Calls Try.prog 26 #[.agg #[.int .u64 id, .int .i64 num, .string sv, .string mt, .int .i64 op]] w fun e w' => e = .returned (.string (bindText id num sv mt op)) ∧ Keeps [] w w' := by
  have s1 := num_size (n := id) hid
  have s2 := num_size (n := num.toNat) (by omega)
  have s3 := num_size (n := op.toNat) (by omega)
  have s4 := span_size hsv
  have s5 := span_size hmt
  have g1 : ¬ 9223372036854775807 < (txt (vput id)).size + (txt (vput num.toNat)).size := by omega
  have g2 : ¬ 9223372036854775807 < (txt (vput id)).size + (txt (vput num.toNat)).size + (spanText sv).size := by omega
  have g3 : ¬ 9223372036854775807 < (txt (vput id)).size + (txt (vput num.toNat)).size + (spanText sv).size + (spanText mt).size := by omega
  have g4 : ¬ 9223372036854775807 < (txt (vput id)).size + (txt (vput num.toNat)).size + (spanText sv).size + (spanText mt).size + (txt (vput op.toNat)).size := by omega
  clear s1 s2 s3 s4 s5
  go_enter Try.func26, Try.ntmps26
  go_wp2_with fail
  go_region_held3 (fun w' => w'.cell? ⟨w.heap.size, 0, none⟩ = some (.int .u64 id) ∧ w'.cell? ⟨w.heap.size, 1, none⟩ = some (.int .i64 num) ∧ w'.cell? ⟨w.heap.size, 2, none⟩ = some (.string sv) ∧ w'.cell? ⟨w.heap.size, 3, none⟩ = some (.string mt) ∧ w'.cell? ⟨w.heap.size, 4, none⟩ = some (.int .i64 op) ∧ Keeps [] w w')
    (first | ((try dsimp only); go_split_ands; (repeat' apply And.intro) <;> first | (simp; done) | assumption | (exact Keeps.cell (by assumption) (by assumption) (by simp)) | (exact Keeps.nil_trans (by assumption) (by assumption)) | (exact ((Keeps.refl _ _).alloc _).drew)))
    (first
      | (go_at_call 90; refine (vPut_calls id hid _).mono ?_; rintro e w' ⟨rfl, hk⟩)
      | (go_at_call 91; refine (number_calls num hn _).mono ?_; rintro e w' ⟨rfl, hk⟩)
      | (go_at_call 42; refine (spanPut_calls sv (by omega) _).mono ?_; rintro e w' ⟨rfl, hk⟩)
      | (go_at_call 42; refine (spanPut_calls mt (by omega) _).mono ?_; rintro e w' ⟨rfl, hk⟩)
      | (go_at_call 91; refine (number_calls op ho _).mono ?_; rintro e w' ⟨rfl, hk⟩))
  all_goals
    go_split_ands
    go_wp2_with fail
    go_ret
    exact ⟨rfl, by assumption⟩

set_option maxRecDepth 4000 in
set_option maxHeartbeats 2000000 in
theorem rPutBind_calls (id : Nat) (num : Int) (sv mt : ByteArray) (op : Int) (hid : id < 18446744073709551616) (hn : num ≤ 9223372036854775807) (hsv : sv.size ≤ 140737488351232) (hmt : mt.size ≤ 140737488351232) (ho : op ≤ 9223372036854775807) (w : World) :
    Calls Try.prog 28 #[.agg #[.int .u64 id, .int .i64 num, .string sv, .string mt, .int .i64 op]] w fun e w' => e = .returned (.string (bindText id num sv mt op)) ∧ Keeps [] w w' := by
  have s1 := num_size (n := id) hid
  have s2 := num_size (n := num.toNat) (by omega)
  have s3 := num_size (n := op.toNat) (by omega)
  have s4 := span_size hsv
  have s5 := span_size hmt
  have g1 : ¬ 9223372036854775807 < (txt (vput id)).size + (txt (vput num.toNat)).size := by omega
  have g2 : ¬ 9223372036854775807 < (txt (vput id)).size + (txt (vput num.toNat)).size + (spanText sv).size := by omega
  have g3 : ¬ 9223372036854775807 < (txt (vput id)).size + (txt (vput num.toNat)).size + (spanText sv).size + (spanText mt).size := by omega
  have g4 : ¬ 9223372036854775807 < (txt (vput id)).size + (txt (vput num.toNat)).size + (spanText sv).size + (spanText mt).size + (txt (vput op.toNat)).size := by omega
  clear s1 s2 s3 s4 s5
  go_enter Try.func28, Try.ntmps28
  go_wp2_with fail
  go_region_held3 (fun w' => w'.cell? ⟨w.heap.size, 0, none⟩ = some (.int .u64 id) ∧ w'.cell? ⟨w.heap.size, 1, none⟩ = some (.int .i64 num) ∧ w'.cell? ⟨w.heap.size, 2, none⟩ = some (.string sv) ∧ w'.cell? ⟨w.heap.size, 3, none⟩ = some (.string mt) ∧ w'.cell? ⟨w.heap.size, 4, none⟩ = some (.int .i64 op) ∧ Keeps [] w w')
    (first | ((try dsimp only); go_split_ands; (repeat' apply And.intro) <;> first | (simp; done) | assumption | (exact Keeps.cell (by assumption) (by assumption) (by simp)) | (exact Keeps.nil_trans (by assumption) (by assumption)) | (exact ((Keeps.refl _ _).alloc _).drew)))
    (first
      | (go_at_call 30; refine (rPut10 id hid _).mono ?_; rintro e w' ⟨rfl, hk⟩)
      | (go_at_call 92; refine (rNumber_calls num hn _).mono ?_; rintro e w' ⟨rfl, hk⟩)
      | (go_at_call 43; refine (rSpanPut_calls sv (by omega) _).mono ?_; rintro e w' ⟨rfl, hk⟩)
      | (go_at_call 43; refine (rSpanPut_calls mt (by omega) _).mono ?_; rintro e w' ⟨rfl, hk⟩)
      | (go_at_call 92; refine (rNumber_calls op ho _).mono ?_; rintro e w' ⟨rfl, hk⟩))
  all_goals
    go_split_ands
    go_wp2_with fail
    go_ret
    exact ⟨rfl, by assumption⟩

end Go.Proofs.Ythcjcgagbpfkpaa

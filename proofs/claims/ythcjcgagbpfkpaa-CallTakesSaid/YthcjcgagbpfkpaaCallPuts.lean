/- CallPuts: the bodies that the program puts of any call, bind, schema and cancel are the document's. -/
import Derived.Test.YthcjcgagbpfkpaaCallPut
namespace Go.Proofs.Ythcjcgagbpfkpaa
open Go.RowKit
attribute [local go_sem ↓] Go.wp_at_zero Go.wp_at_succ

set_option maxRecDepth 4000 in
theorem ours_calls (id : Nat) (wt nm : Int) (s : ByteArray) (w : World) :
    Calls Try.prog 24 #[.agg #[.int .u64 id, .int .i64 wt, .int .i64 nm, .string s]] w fun e w' => e = .returned (.agg #[.int .u64 id, .int .i64 wt, .int .i64 nm, .string s]) ∧ Keeps [] w w' := by
  go_enter Try.func24, Try.ntmps24
  go_wp2_with fail
  exact bodyPost_ret (v := .agg #[.int .u64 id, .int .i64 wt, .int .i64 nm, .string s]) (by simp [results, Try.results24, go_sem]) rfl ⟨rfl, ((Keeps.refl _ _).alloc _).alloc _⟩

set_option maxRecDepth 4000 in
theorem bindOf_calls (id : Nat) (num : Int) (sv mt : ByteArray) (op : Int) (w : World) :
    Calls Try.prog 27 #[.agg #[.int .u64 id, .int .i64 num, .string sv, .string mt, .int .i64 op]] w fun e w' => e = .returned (.agg #[.int .u64 id, .int .i64 num, .string sv, .string mt, .int .i64 op]) ∧ Keeps [] w w' := by
  go_enter Try.func27, Try.ntmps27
  go_wp2_with fail
  exact bodyPost_ret (v := .agg #[.int .u64 id, .int .i64 num, .string sv, .string mt, .int .i64 op]) (by simp [results, Try.results27, go_sem]) rfl ⟨rfl, ((Keeps.refl _ _).alloc _).alloc _⟩

theorem awake34_text : callText 1 0 2 ⟨#[120]⟩ = ⟨#[1, 0, 2, 120]⟩ := by
  unfold callText
  rw [show (0 : Int).toNat = 0 from rfl, show (2 : Int).toNat = 2 from rfl, vput_lt (n := 1) (by omega), vput_lt (n := 0) (by omega), vput_lt (n := 2) (by omega)]
  decide +kernel

set_option maxRecDepth 4000 in
theorem awake34 (w : World) : Calls Try.prog 32 #[] w fun e w' => e = .returned (.bool true) ∧ Keeps [] w w' := by
  go_enter Try.func32, Try.ntmps32
  go_wp2_with fail
  refine (putCall_calls 1 0 2 ⟨#[120]⟩ (by omega) (by omega) (by omega) (by decide) _).mono ?_
  rintro e w1 ⟨rfl, hk⟩
  rw [awake34_text]
  go_wp2_with fail
  go_ret
  exact ⟨rfl, hk⟩

set_option maxRecDepth 4000 in
theorem putSchema_calls (id : Nat) (s : ByteArray) (hid : id < 18446744073709551616) (hs : s.size ≤ 140737488351232) (w : World) :
    Calls Try.prog 29 #[.int .u64 id, .string s] w fun e w' => e = .returned (.string (txt (vput id) ++ s)) ∧ Keeps [] w w' := by
  have s1 := num_size (n := id) hid
  have g1 : ¬ 9223372036854775807 < (txt (vput id)).size + s.size := by omega
  clear s1
  go_enter Try.func29, Try.ntmps29
  go_wp2_with fail
  refine (vPut_calls id hid _).mono ?_
  rintro e w1 ⟨rfl, hk⟩
  go_wp2_with fail
  go_ret
  exact ⟨rfl, hk⟩

set_option maxRecDepth 4000 in
theorem putCancel_calls (id : Nat) (hid : id < 18446744073709551616) (w : World) :
    Calls Try.prog 31 #[.int .u64 id] w fun e w' => e = .returned (.string (txt (vput id))) ∧ Keeps [] w w' := by
  go_enter Try.func31, Try.ntmps31
  go_wp2_with fail
  refine (vPut_calls id hid _).mono ?_
  rintro e w1 ⟨rfl, hk⟩
  go_wp2_with fail
  go_ret
  exact ⟨rfl, hk⟩

set_option maxRecDepth 8000 in
set_option maxHeartbeats 4000000 in
theorem callPuts_go (id : Nat) (wt nm : Int) (a : ByteArray) (hid : id < 18446744073709551616) (hw : wt ≤ 9223372036854775807) (hn : nm ≤ 9223372036854775807) (ha : a.size ≤ 140737488351232)
    (jd : Nat) (num : Int) (sv mt : ByteArray) (op : Int) (hjd : jd < 18446744073709551616) (hnum : num ≤ 9223372036854775807) (hsv : sv.size ≤ 140737488351232) (hmt : mt.size ≤ 140737488351232) (ho : op ≤ 9223372036854775807)
    (s : ByteArray) (hs : s.size ≤ 140737488351232) (w : World) :
    Calls Try.prog 3 #[.agg #[.int .u64 id, .int .i64 wt, .int .i64 nm, .string a], .agg #[.int .u64 jd, .int .i64 num, .string sv, .string mt, .int .i64 op], .string s] w fun e w' => e = .returned (.bool true) ∧ Keeps [] w w' := by
  have s1 := num_size (n := id) hid
  have g1 : ¬ 9223372036854775807 < (txt (vput id)).size + s.size := by omega
  clear s1
  go_enter Try.func3, Try.ntmps3
  go_wp2_with fail
  go_region_held3 (fun w' => w'.cell? ⟨w.heap.size, 0, none⟩ = some (.int .u64 id) ∧ w'.cell? ⟨w.heap.size, 1, none⟩ = some (.int .i64 wt) ∧ w'.cell? ⟨w.heap.size, 2, none⟩ = some (.int .i64 nm) ∧
      w'.cell? ⟨w.heap.size, 3, none⟩ = some (.string a) ∧
      w'.cell? ⟨w.heap.size + 1, 0, none⟩ = some (.int .u64 jd) ∧ w'.cell? ⟨w.heap.size + 1, 1, none⟩ = some (.int .i64 num) ∧ w'.cell? ⟨w.heap.size + 1, 2, none⟩ = some (.string sv) ∧
      w'.cell? ⟨w.heap.size + 1, 3, none⟩ = some (.string mt) ∧ w'.cell? ⟨w.heap.size + 1, 4, none⟩ = some (.int .i64 op) ∧ Keeps [] w w')
    (first | ((try dsimp only); go_split_ands; (repeat' apply And.intro) <;> first | (simp; done) | assumption | (exact Keeps.cell (by assumption) (by assumption) (by simp)) | (exact Keeps.nil_trans (by assumption) (by assumption)) | (exact (((Keeps.refl _ _).alloc _).alloc _).drew)))
    (first
      | (go_at_call 24; refine (ours_calls id wt nm a _).mono ?_; rintro e w' ⟨rfl, hk⟩)
      | (go_at_call 23; refine (putCall_calls id wt nm a hid hw hn ha _).mono ?_; rintro e w' ⟨rfl, hk⟩)
      | (go_at_call 25; refine (rPutCall_calls id wt nm a hid hw hn ha _).mono ?_; rintro e w' ⟨rfl, hk⟩)
      | (go_at_call 27; refine (bindOf_calls jd num sv mt op _).mono ?_; rintro e w' ⟨rfl, hk⟩)
      | (go_at_call 26; refine (putBind_calls jd num sv mt op hjd hnum hsv hmt ho _).mono ?_; rintro e w' ⟨rfl, hk⟩)
      | (go_at_call 28; refine (rPutBind_calls jd num sv mt op hjd hnum hsv hmt ho _).mono ?_; rintro e w' ⟨rfl, hk⟩)
      | (go_at_call 29; refine (putSchema_calls id s hid hs _).mono ?_; rintro e w' ⟨rfl, hk⟩)
      | (go_at_call 30; (with_reducible refine (rPut10 id hid _).mono ?_); rintro e w' ⟨rfl, hk⟩)
      | (go_at_call 30; (with_reducible refine (rPut10 jd hjd _).mono ?_); rintro e w' ⟨rfl, hk⟩)
      | (go_at_call 31; refine (putCancel_calls jd hjd _).mono ?_; rintro e w' ⟨rfl, hk⟩)
      | (go_at_call 32; refine (awake34 _).mono ?_; rintro e w' ⟨rfl, hk⟩))
  all_goals
    go_split_ands
    go_wp2_with fail
    go_ret
    exact ⟨rfl, by assumption⟩

theorem callPuts_walk (id : Nat) (hid : id < 18446744073709551616) (wt : Int) (_ : -9223372036854775808 ≤ wt) (hw : wt ≤ 9223372036854775807) (nm : Int) (_ : -9223372036854775808 ≤ nm) (hn : nm ≤ 9223372036854775807)
    (a : ByteArray) (ha : a.size ≤ 140737488351232)
    (jd : Nat) (hjd : jd < 18446744073709551616) (num : Int) (_ : -9223372036854775808 ≤ num) (hnum : num ≤ 9223372036854775807) (sv : ByteArray) (hsv : sv.size ≤ 140737488351232) (mt : ByteArray) (hmt : mt.size ≤ 140737488351232)
    (op : Int) (_ : -9223372036854775808 ≤ op) (ho : op ≤ 9223372036854775807) (s : ByteArray) (hs : s.size ≤ 140737488351232) (w : World) :
    Calls Try.prog 3 #[.agg #[.int .u64 id, .int .i64 wt, .int .i64 nm, .string a], .agg #[.int .u64 jd, .int .i64 num, .string sv, .string mt, .int .i64 op], .string s] w fun e w' => e = .returned (.bool true) ∧ Keeps [] w w' :=
  callPuts_go id wt nm a hid hw hn ha jd num sv mt op hjd hnum hsv hmt ho s hs w

end Go.Proofs.Ythcjcgagbpfkpaa

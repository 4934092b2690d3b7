/- SpanNone: a reader that is not there takes nothing, and one that no call made has no bytes. -/
import Derived.Test.YthcjcgagbpfkpaaSpanTakes
import Derived.Test.YthcjcgagbpfkpaaReadAt
namespace Go.Proofs.Ythcjcgagbpfkpaa
set_option linter.unusedSimpArgs false
set_option linter.unusedVariables false
open Go.RowKit

set_option maxRecDepth 4000 in
theorem num_nil (w : World) : Calls Try.prog 73 #[.pointer none] w fun e w' => e = .returned (.int .u64 0) ∧ w = w' := by
  go_enter Try.func73, Try.ntmps73
  go_wp2
  go_ret
  exact ⟨rfl, rfl⟩
set_option maxRecDepth 4000 in
theorem int_nil (most : Int) (w : World) : Calls Try.prog 74 #[.pointer none, .int .i64 most] w fun e w' => e = .returned (.int .i64 0) ∧ Keeps [] w w' := by
  go_enter Try.func74, Try.ntmps74
  go_wp2
  go_ret
  exact ⟨rfl, (Keeps.refl _ _).alloc _⟩
set_option maxRecDepth 4000 in
theorem text_nil (most : Int) (w : World) : Calls Try.prog 69 #[.pointer none, .int .i64 most] w fun e w' => e = .returned (.string ⟨#[]⟩) ∧ Keeps [] w w' := by
  go_enter Try.func69, Try.ntmps69
  go_wp2
  go_ret
  exact ⟨rfl, (Keeps.refl _ _).alloc _⟩
set_option maxRecDepth 4000 in
theorem rest_nil (w : World) : Calls Try.prog 71 #[.pointer none] w fun e w' => e = .returned (.string ⟨#[]⟩) ∧ w = w' := by
  go_enter Try.func71, Try.ntmps71
  go_wp2
  go_ret
  exact ⟨rfl, rfl⟩
set_option maxRecDepth 4000 in
theorem done_nil (w : World) : Calls Try.prog 72 #[.pointer none] w fun e w' => e = .returned (.int .i64 0) ∧ w = w' := by
  go_enter Try.func72, Try.ntmps72
  go_wp2
  go_ret
  exact ⟨rfl, rfl⟩
set_option maxRecDepth 4000 in
theorem at_nil (w : World) : Calls Try.prog 70 #[.pointer none] w fun e w' => e = .returned (.int .i64 0) ∧ w = w' := by
  go_enter Try.func70, Try.ntmps70
  go_wp2
  go_ret
  exact ⟨rfl, rfl⟩

theorem empty_reads (most : Int) : rdRest ⟨#[]⟩ (0, 0) = (⟨#[]⟩, (0, 0)) ∧ rdDone ⟨#[]⟩ (0, 0) = 0 ∧ rdInt most ⟨#[]⟩ (0, 0) = (0, (0, 2)) ∧ rdDone ⟨#[]⟩ (0, 2) = 2 := by
  refine ⟨?_, ?_, ?_, ?_⟩
  · rw [rdRest_good, extract_all]
    rfl
  · exact rdDone_all (by decide)
  · refine rdInt_bad (n := 0) (k := 0) ?_ (by decide)
    rw [extract_all]
    unfold intT
    rw [show vtake ⟨#[]⟩ = (0, 0, 2) from rfl]
    rfl
  · exact rdDone_err (by decide)

set_option maxRecDepth 8000 in
set_option maxHeartbeats 2000000 in
theorem spanNone_walk (most : Int) (_ : -9223372036854775808 ≤ most) (hm : most ≤ 9223372036854775807) (w : World) :
    Calls Try.prog 16 #[.int .i64 most] w fun e' w' => e' = .returned (.bool true) ∧ Keeps [] w w' := by
  obtain ⟨e1, e2, e3, e4⟩ := empty_reads most
  have hS : (⟨#[]⟩ : ByteArray).size ≤ 1152921504606846976 := by decide
  have p1 := rdRest_in' e1 (RdIn.zero _)
  have p3 := (rdInt_in' e3 (RdIn.zero _)).1
  have C1 := Aside.mk (fun R w h => rest_at hS (RdIn.zero _) R w h e1)
  have C2 := Aside.mk (fun R w h => done_at hS p1 R w h e2)
  have C3 := Aside.mk (fun R w h => int_at hS p1 R w h hm e3)
  have C4 := Aside.mk (fun R w h => done_at hS p3 R w h e4)
  have C5 := Aside.mk (fun R w h => at_calls R ⟨#[]⟩ (0, 2) w h)
  have hr0 := Rd.new w ⟨#[]⟩
  have hk0 := (Keeps.refl [] w).alloc (.cells #[.string ⟨#[]⟩, .int .i64 0, .int .i64 0] 116)
  clear e1 e2 e3 e4 hS p1 p3
  go_enter Try.func16, Try.ntmps16
  go_wp2_with fail
  refine (num_nil _).mono ?_
  rintro e' w1 ⟨rfl, rfl⟩
  go_wp2_with fail
  refine (int_nil most _).mono ?_
  rintro e' w2 ⟨rfl, hk2⟩
  go_wp2_with fail
  refine (text_nil most _).mono ?_
  rintro e' w3 ⟨rfl, hk3⟩
  go_wp2_with fail
  refine (rest_nil _).mono ?_
  rintro e' w4 ⟨rfl, rfl⟩
  go_wp2_with fail
  refine (done_nil _).mono ?_
  rintro e' w4 ⟨rfl, rfl⟩
  go_wp2_with fail
  refine (at_nil _).mono ?_
  rintro e' w4 ⟨rfl, rfl⟩
  go_wp2_with fail
  have hr3 := (hr0.keeps hk2 (by simp)).keeps hk3 (by simp)
  refine (C1.out _ _ hr3).mono ?_
  rintro e' w4 ⟨rfl, hr4, hk4⟩
  go_wp2_with fail
  refine (C2.out _ _ hr4).mono ?_
  rintro e' w5 ⟨rfl, hk5⟩
  go_wp2_with fail
  refine (C3.out _ _ (hr4.keeps hk5 (by simp))).mono ?_
  rintro e' w6 ⟨rfl, hr6, hk6⟩
  go_wp2_with fail
  refine (C4.out _ _ hr6).mono ?_
  rintro e' w7 ⟨rfl, hk7⟩
  go_wp2_with fail
  refine (C5.out _ _ (hr6.keeps hk7 (by simp))).mono ?_
  rintro e' w8 ⟨rfl, rfl⟩
  go_wp2_with fail
  refine (awake02 _).mono ?_
  rintro e' w8 ⟨rfl, hk8⟩
  go_wp2_with fail
  go_ret
  have hA := (((((hk0.nil_trans hk2).nil_trans hk3).trans hk4 (by simp)).nil_trans hk5).trans hk6 (by simp)).nil_trans hk7
  exact ⟨rfl, hA.nil_trans hk8⟩

end Go.Proofs.Ythcjcgagbpfkpaa

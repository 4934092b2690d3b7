/- SpanBack: texts that are put one behind the other are taken so, and nothing is left then. -/
import Derived.Test.YthcjcgagbpfkpaaBack
import Derived.Test.YthcjcgagbpfkpaaSpanTakes
namespace Go.Proofs.Ythcjcgagbpfkpaa
set_option linter.unusedSimpArgs false
set_option linter.unusedVariables false
open Go.RowKit

theorem spans_read (a b c : ByteArray) (ha : a.size ≤ 140737488351232) (hb : b.size ≤ 140737488351232) :
    rdText (a.size : Int) (spanText a ++ spanText b ++ c) (0, 0) = (a, ((spanText a).size, 0)) ∧
    rdText (b.size : Int) (spanText a ++ spanText b ++ c) ((spanText a).size, 0) = (b, ((spanText a).size + (spanText b).size, 0)) ∧
    rdRest (spanText a ++ spanText b ++ c) ((spanText a).size + (spanText b).size, 0) = (c, ((spanText a ++ spanText b ++ c).size, 0)) ∧
    rdDone (spanText a ++ spanText b ++ c) ((spanText a ++ spanText b ++ c).size, 0) = 0 := by
  obtain ⟨S, hS⟩ : ∃ S, S = spanText a ++ spanText b ++ c := ⟨_, rfl⟩
  rw [← hS]
  have e0 : S.extract 0 S.size = spanText a ++ (spanText b ++ c) := by rw [extract_all, hS, ba_append_assoc]
  obtain ⟨e1, l1⟩ := rest_at_span (Nat.zero_le _) e0
  rw [Nat.zero_add] at e1 l1
  obtain ⟨e2, l2⟩ := rest_at_span l1 e1
  have hz : S.size = (spanText a).size + (spanText b).size + c.size := by rw [hS, ByteArray.size_append, ByteArray.size_append]
  refine ⟨?_, ?_, ?_, ?_⟩
  · rw [rdText_good (s := a) (k := (spanText a).size) (by rw [e0]; exact spanT_put (by omega) (by simp) _), Nat.zero_add]
  · exact rdText_good (by rw [e1]; exact spanT_put (by omega) (by simp) _)
  · rw [rdRest_good, e2]
    simp only [Prod.mk.injEq, and_true, true_and]
    omega
  · exact rdDone_all (by omega)

set_option maxRecDepth 8000 in
set_option maxHeartbeats 2000000 in
theorem spanBack_walk (a : ByteArray) (ha : a.size ≤ 140737488351232) (b : ByteArray) (hb : b.size ≤ 140737488351232) (c : ByteArray) (hc : c.size ≤ 140737488351232) (w : World) :
    Calls Try.prog 15 #[.string a, .string b, .string c] w fun e' w' => e' = .returned (.bool true) ∧ Keeps [] w w' := by
  obtain ⟨e1, e2, e3, e4⟩ := spans_read a b c ha hb
  have za := span_size ha
  have zb := span_size hb
  have hz : (spanText a ++ spanText b ++ c).size = (spanText a).size + (spanText b).size + c.size := by rw [ByteArray.size_append, ByteArray.size_append]
  have hS : (spanText a ++ spanText b ++ c).size ≤ 1152921504606846976 := by omega
  have p1 := rdText_in' e1 (RdIn.zero _)
  have p2 := rdText_in' e2 p1
  have p3 := rdRest_in' e3 p2
  have C1 := Aside.mk (fun R w h => text_at hS (RdIn.zero _) R w h (by omega) e1)
  have C2 := Aside.mk (fun R w h => text_at hS p1 R w h (by omega) e2)
  have CA := Aside.mk (fun R w h => at_calls R (spanText a ++ spanText b ++ c) ((spanText a).size + (spanText b).size, 0) w h)
  have C3 := Aside.mk (fun R w h => rest_at hS p2 R w h e3)
  have C4 := Aside.mk (fun R w h => done_at hS p3 R w h e4)
  have g1 : ¬ 9223372036854775807 < (spanText a).size + (spanText b).size := by omega
  have g2 : ¬ 9223372036854775807 < (spanText a).size + (spanText b).size + c.size := by omega
  have m1 : (spanText a).size ≤ 1000000000000000 := by omega
  have m2 : (spanText b).size ≤ 1000000000000000 := by omega
  clear e1 e2 e3 e4 za zb hz hS p1 p2 p3
  go_enter Try.func15, Try.ntmps15
  go_wp2_with fail
  refine (spanPut_calls a (by omega) _).mono ?_
  rintro e' w1 ⟨rfl, hk1⟩
  go_wp2_with fail
  refine (spanPut_calls b (by omega) _).mono ?_
  rintro e' w2 ⟨rfl, hk2⟩
  go_wp2_with fail
  refine (read_calls _ _).mono ?_
  rintro e' w3 ⟨rfl, hr3, hk3⟩
  go_wp2_with fail
  refine (C1.out _ _ hr3).mono ?_
  rintro e' w4 ⟨rfl, hr4, hk4⟩
  go_wp2_with fail
  refine (C2.out _ _ hr4).mono ?_
  rintro e' w5 ⟨rfl, hr5, hk5⟩
  go_wp2_with fail
  refine (CA.out _ _ hr5).mono ?_
  rintro e' w6 ⟨rfl, rfl⟩
  go_wp2_with fail
  refine (C3.out _ _ hr5).mono ?_
  rintro e' w6 ⟨rfl, hr6, hk6⟩
  go_wp2_with fail
  refine (spanPut_calls a (by omega) _).mono ?_
  rintro e' w7 ⟨rfl, hk7⟩
  go_wp2_with fail
  refine (spanPut_calls b (by omega) _).mono ?_
  rintro e' w8 ⟨rfl, hk8⟩
  go_wp2_with fail
  refine (C4.out _ _ ((hr6.keeps hk7 (by simp)).keeps hk8 (by simp))).mono ?_
  rintro e' w9 ⟨rfl, hk9⟩
  go_wp2_with fail
  refine (awake02 _).mono ?_
  rintro e' w10 ⟨rfl, hk10⟩
  go_wp2_with fail
  go_ret
  have hkA := ((((hk1.nil_trans hk2).nil_trans hk3).trans hk4 (by have := hk1.size; have := hk2.size; simp; omega)).trans hk5 (by have := hk1.size; have := hk2.size; simp; omega)).trans hk6 (by have := hk1.size; have := hk2.size; simp; omega)
  exact ⟨rfl, (((hkA.nil_trans hk7).nil_trans hk8).nil_trans hk9).nil_trans hk10⟩

end Go.Proofs.Ythcjcgagbpfkpaa

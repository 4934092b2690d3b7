/- SpanTakes: the span of any text, and the span with which any bytes begin, are the document's. -/
import Derived.Test.YthcjcgagbpfkpaaSpanT
namespace Go.Proofs.Ythcjcgagbpfkpaa
set_option linter.unusedSimpArgs false
set_option linter.unusedVariables false
open Go.RowKit

theorem awake02_text : spanText ⟨#[97, 98]⟩ = ⟨#[2, 97, 98]⟩ := by
  unfold spanText
  rw [show (⟨#[97, 98]⟩ : ByteArray).size = 2 from rfl, vput_lt (n := 2) (by omega)]
  decide +kernel

set_option maxRecDepth 4000 in
theorem awake02 (w : World) : Calls Try.prog 44 #[] w fun e w' => e = .returned (.bool true) ∧ Keeps [] w w' := by
  go_enter Try.func44, Try.ntmps44
  go_wp2_with fail
  refine (spanPut_calls ⟨#[97, 98]⟩ (by decide) _).mono ?_
  rintro e w1 ⟨rfl, hk⟩
  rw [awake02_text]
  go_wp2_with fail
  go_ret
  exact ⟨rfl, hk⟩

set_option maxRecDepth 4000 in
set_option maxHeartbeats 1000000 in
theorem spanTakes_walk (s : ByteArray) (hs : s.size ≤ 140737488351232) (b : ByteArray) (hb : b.size ≤ 140737488351232) (most : Int) (h0 : -9223372036854775808 ≤ most) (h1 : most ≤ 9223372036854775807) (w : World) :
    Calls Try.prog 7 #[.string s, .string b, .int .i64 most] w fun e w' => e = .returned (.bool true) ∧ Keeps [] w w' := by
  have hb : b.size ≤ 1152921504606846976 := by omega
  have c1 := Aside.mk (fun w => spanTake_calls b most hb h1 w)
  have c2 := Aside.mk (fun w => rSpanTake_calls b most hb h1 w)
  generalize spanT b most = r at c1 c2
  obtain ⟨x, k, e⟩ := r
  dsimp only at c1 c2
  go_enter Try.func7, Try.ntmps7
  go_wp2_with fail
  refine (c1.out _).mono ?_
  rintro e w1 ⟨rfl, rfl⟩
  go_wp2_with fail
  refine (c2.out _).mono ?_
  rintro e w1 ⟨rfl, rfl⟩
  go_wp2_with fail
  refine (spanPut_calls s (by omega) _).mono ?_
  rintro e w1 ⟨rfl, hk1⟩
  go_wp2_with fail
  refine (rSpanPut_calls s (by omega) _).mono ?_
  rintro e w2 ⟨rfl, hk2⟩
  go_wp2_with fail
  refine (awake02 _).mono ?_
  rintro e w3 ⟨rfl, hk3⟩
  go_wp2_with fail
  go_ret
  exact ⟨rfl, (hk1.nil_trans hk2).nil_trans hk3⟩

end Go.Proofs.Ythcjcgagbpfkpaa

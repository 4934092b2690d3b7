/- DiceMixes: for every two numbers the program's Mix is the document's, is the same with the two exchanged, and is 0 of a number and itself. -/
import Derived.Test.YthcjcgagbpfkpaaMix
import Derived.Test.YthcjcgagbpfkpaaDice
namespace Go.Proofs.Ythcjcgagbpfkpaa
open Go.RowKit

set_option maxHeartbeats 1000000 in
theorem awake20 (w : World) : Calls Try.prog 33 #[] w fun e w' => e = .returned (.bool true) ∧ Keeps [] w w' := by
  go_enter Try.func33, Try.ntmps33
  go_wp2_with fail
  refine (dNew _).mono ?_
  rintro e w1 ⟨rfl, hD, hk⟩
  go_wp2_with fail
  refine (dPut_yes _ [] 7 _ hD (by simp)).mono ?_
  rintro e w2 ⟨rfl, hD2, hk2⟩
  go_wp2_with fail
  refine (dTake_yes _ [] 7 _ hD2).mono ?_
  rintro e w3 ⟨rfl, hD3, hk3⟩
  go_wp2_with fail
  refine (mix_calls 0 0 (by omega) (by omega) _).mono ?_
  rintro e w4 ⟨rfl, rfl⟩
  rw [mixN_self]
  go_wp2_with fail
  refine (dLeft _ [] _ hD3).mono ?_
  rintro e w4 ⟨rfl, rfl⟩
  go_wp2_with fail
  go_ret
  exact ⟨rfl, (hk.trans hk2 (by simp)).trans hk3 (by simp)⟩


set_option maxHeartbeats 1000000 in
theorem diceMixes_walk (a : Nat) (ha : a < 18446744073709551616) (b : Nat) (hb : b < 18446744073709551616) (w : World) :
    Calls Try.prog 5 #[.int .u64 a, .int .u64 b] w fun e w' => e = .returned (.bool true) ∧ Keeps [] w w' := by
  go_enter Try.func5, Try.ntmps5
  go_wp2_with fail
  refine (mix_calls a b ha hb _).mono ?_
  rintro e w1 ⟨rfl, rfl⟩
  go_wp2_with fail
  refine (refMix_calls a b ha hb _).mono ?_
  rintro e w1 ⟨rfl, rfl⟩
  go_wp2_with fail
  refine (mix_calls a b ha hb _).mono ?_
  rintro e w1 ⟨rfl, rfl⟩
  go_wp2_with fail
  refine (mix_calls b a hb ha _).mono ?_
  rintro e w1 ⟨rfl, rfl⟩
  rw [mixN_comm b a]
  go_wp2_with fail
  refine (mix_calls a a ha ha _).mono ?_
  rintro e w1 ⟨rfl, rfl⟩
  rw [mixN_self]
  go_wp2_with fail
  refine (awake20 _).mono ?_
  rintro e w1 ⟨rfl, hk⟩
  go_wp2_with fail
  go_ret
  exact ⟨rfl, hk⟩

end Go.Proofs.Ythcjcgagbpfkpaa

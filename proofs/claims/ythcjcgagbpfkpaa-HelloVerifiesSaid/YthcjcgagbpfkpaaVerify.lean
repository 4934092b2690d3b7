/- hello.Verify: the owner that a body proves. -/
import Derived.Test.YthcjcgagbpfkpaaMacNone
import Derived.Test.YthcjcgagbpfkpaaHello
namespace Go.Proofs.Ythcjcgagbpfkpaa
set_option linter.unusedVariables false
set_option linter.unusedSimpArgs false
open Go.RowKit

set_option maxRecDepth 4000 in
set_option maxHeartbeats 2000000 in
theorem verify_bad (t : Value) (b : ByteArray) (hb : b.size ≤ 1152921504606846976) {a c n er : Nat} (hT : helloT b = ((a, c, n), er)) (her : er ≠ 0) (w : World) :
    Calls Try.prog 89 #[t, .string b] w fun e w' => e = .returned (.tuple #[.int .i64 0, .int .i64 16]) ∧ Keeps [] w w' := by
  have C := Aside.mk (fun w => helloTake_calls b hb hT w)
  have h0 : ((er : Int) != 0) = true := by rw [bne_iff_ne]; omega
  clear hT her
  go_enter Try.func89, Try.ntmps89
  go_wp2_with fail
  refine (C.out _).mono ?_
  rintro e' w1 ⟨rfl, k1⟩
  go_wp2_with fail
  go_ret2
  exact ⟨rfl, k1.alloc _⟩

set_option maxRecDepth 4000 in
set_option maxHeartbeats 2000000 in
theorem verify_nil (b : ByteArray) (hb : b.size ≤ 1152921504606846976) {a c n : Nat} (hT : helloT b = ((a, c, n), 0)) (w : World) :
    Calls Try.prog 89 #[.pointer none, .string b] w fun e w' => e = .returned (.tuple #[.int .i64 0, .int .i64 16]) ∧ Keeps [] w w' := by
  have C := Aside.mk (fun w => helloTake_calls b hb hT w)
  clear hT
  go_enter Try.func89, Try.ntmps89
  go_wp2_with fail
  refine (C.out _).mono ?_
  rintro e' w1 ⟨rfl, k1⟩
  go_wp2_with fail
  refine (mKnows_nil _ _ _ _).mono ?_
  rintro e' w3 ⟨rfl, rfl⟩
  go_wp2_with fail
  go_ret2
  exact ⟨rfl, k1.alloc _⟩

set_option maxRecDepth 4000 in
set_option maxHeartbeats 2000000 in
theorem verify_no (R : Nat) (T : Nat → Nat × Nat × Nat) (b : ByteArray) (hb : b.size ≤ 1152921504606846976) {a c n : Nat} (hT : helloT b = ((a, c, n), 0)) (w : World) (hm : Mac w R T) (hk : known T a c n = false) :
    Calls Try.prog 89 #[.pointer (some ⟨R, 0, none⟩), .string b] w fun e w' => e = .returned (.tuple #[.int .i64 0, .int .i64 16]) ∧ Keeps [] w w' := by
  have C := Aside.mk (fun w => helloTake_calls b hb hT w)
  have HM := Aside.mk hm
  have HK := Aside.mk hk
  clear hT hm hk
  go_enter Try.func89, Try.ntmps89
  go_wp2_with fail
  refine (C.out _).mono ?_
  rintro e' w1 ⟨rfl, k1⟩
  go_wp2_with fail
  refine (mKnows R T _ _ _ _ (HM.out.keeps (k1.alloc _) (by simp))).mono ?_
  rw [HK.out]
  rintro e' w3 ⟨rfl, rfl⟩
  go_wp2_with fail
  go_ret2
  exact ⟨rfl, k1.alloc _⟩

set_option maxRecDepth 4000 in
set_option maxHeartbeats 2000000 in
theorem verify_yes (R : Nat) (T : Nat → Nat × Nat × Nat) (b : ByteArray) (hb : b.size ≤ 1152921504606846976) {a c n : Nat} (hT : helloT b = ((a, c, n), 0)) (w : World) (hm : Mac w R T) (hk : known T a c n = true) :
    Calls Try.prog 89 #[.pointer (some ⟨R, 0, none⟩), .string b] w fun e w' => e = .returned (.tuple #[.int .i64 a, .int .i64 0]) ∧ Keeps [] w w' := by
  have C := Aside.mk (fun w => helloTake_calls b hb hT w)
  have HM := Aside.mk hm
  have HK := Aside.mk hk
  clear hT hm hk
  go_enter Try.func89, Try.ntmps89
  go_wp2_with fail
  refine (C.out _).mono ?_
  rintro e' w1 ⟨rfl, k1⟩
  go_wp2_with fail
  refine (mKnows R T _ _ _ _ (HM.out.keeps (k1.alloc _) (by simp))).mono ?_
  rw [HK.out]
  rintro e' w3 ⟨rfl, rfl⟩
  go_wp2_with fail
  go_ret2
  exact ⟨rfl, k1.alloc _⟩
end Go.Proofs.Ythcjcgagbpfkpaa

/- A number's bytes by the document: by dividing, the function calling itself. -/
import Derived.Test.YthcjcgagbpfkpaaVput
namespace Go.Proofs.Ythcjcgagbpfkpaa
open Go.RowKit

theorem byte_text (w : World) (n : Nat) (hn : n < 256) : (convert 151 9 (.slice (some ⟨w.heap.size, 0, none⟩) 1 1)).run Try.prog (w.alloc (.cells #[.int .u8 n] 5)) =
    .ok (.string (txt [b8 n])) (w.alloc (.cells #[.int .u8 n] 5)) := by
  refine run_convert_bytes_back _ 151 9 5 ⟨w.heap.size, 0, none⟩ 1 [b8 n] Try.underlying151 Try.underlying5 Try.underlying9 (fun j hj => ?_)
  obtain rfl : j = 0 := by simpa using hj
  have := cell_one_new w (.int .u8 n) 5 0 (.int .u8 n) rfl
  rw [this]
  simp [b8_nat hn]

theorem rByte_calls (n : Nat) (hn : n < 256) (w : World) :
    Calls Try.prog 93 #[.int .i64 n] w fun e w' => e = .returned (.string (txt [b8 n])) ∧ Keeps [] w w' := by
  have hcv := byte_text w n hn
  go_enter Try.func93, Try.ntmps93
  go_wp2
  go_ret
  exact ⟨rfl, (Keeps.refl _ _).alloc _⟩

set_option maxRecDepth 4000 in
set_option maxHeartbeats 1000000 in
theorem rPut_calls (k : Nat) : ∀ (n : Nat) (w : World), n < 128 ^ (k + 1) → n < 18446744073709551616 →
    Calls Try.prog 30 #[.int .u64 n] w fun e w' => e = .returned (.string (txt (vput n))) ∧ Keeps [] w w' := by
  induction k with
  | zero =>
    intro n w hk hn
    have h : n < 128 := by simpa using hk
    rw [vput_lt h]
    clear hk hn
    go_enter Try.func30, Try.ntmps30
    go_wp2_with fail
    refine (rByte_calls n (by omega) _).mono ?_
    rintro e w1 ⟨rfl, hk⟩
    go_wp2_with fail
    go_ret
    exact ⟨rfl, hk⟩
  | succ k ih =>
    intro n w hk hn
    by_cases h : n < 128
    · rw [vput_lt h]
      clear hk hn ih
      go_enter Try.func30, Try.ntmps30
      go_wp2_with fail
      refine (rByte_calls n (by omega) _).mono ?_
      rintro e w1 ⟨rfl, hk⟩
      go_wp2_with fail
      go_ret
      exact ⟨rfl, hk⟩
    · have ih1 := fun w => ih (n / 128) w (by rw [Nat.div_lt_iff_lt_mul (by decide)]; rwa [← Nat.pow_succ]) (by omega)
      have IH := Aside.mk ih1
      rw [vput_ge h]
      clear hk ih ih1
      have c1 := fun w => rByte_calls (n % 128 + 128) (by omega) w
      have e1 : ((n % 128 + 128 : Nat) : Int) = (n : Int) % 128 + 128 := by omega
      rw [e1] at c1
      have C1 := Aside.mk c1
      have e2 : ((n / 128 : Nat) : Int) = (n : Int) / 128 := by omega
      rw [e2] at IH
      clear e1 e2 c1
      go_enter Try.func30, Try.ntmps30
      go_wp2_with fail
      refine (C1.out _).mono ?_
      rintro e w1 ⟨rfl, hk⟩
      have hsum : (txt [b8 (n % 128 + 128)]).size + (txt (vput (n / 128))).size ≤ 9223372036854775807 := by
        have := vput_len10 (n := n / 128) (by omega)
        rw [txt_size, txt_size]
        simp
        omega
      go_wp2_with fail
      refine (IH.out _).mono ?_
      rintro e w2 ⟨rfl, hk2⟩
      go_wp2_with fail
      go_ret
      exact ⟨by simp [txt_append], hk.nil_trans hk2⟩

end Go.Proofs.Ythcjcgagbpfkpaa

/- A number's bytes: varint.Put and the document's Put give the same text of every number. -/
import Derived.Test.YthcjcgagbpfkpaaKit
import Derived.Maps.AppendAt
import Derived.Laws.IdiomStrings
import Derived.Deep.AppendLies
import Derived.RangeFuncBox
namespace Go.Proofs.Ythcjcgagbpfkpaa
open Go.RowKit

/-- A byte of a number. -/
def b8 (n : Nat) : UInt8 := UInt8.ofNat n
theorem b8_nat {n : Nat} (h : n < 256) : (b8 n).toNat = n := by simp [b8]; omega
theorem b8_self (c : UInt8) : b8 c.toNat = c := by simp [b8]

/-- 1.1: a number's bytes. -/
def vput (n : Nat) : List UInt8 := if n < 128 then [b8 n] else b8 (n % 128 + 128) :: vput (n / 128)
termination_by n
decreasing_by omega

theorem vput_lt {n : Nat} (h : n < 128) : vput n = [b8 n] := by rw [vput, if_pos h]
theorem vput_ge {n : Nat} (h : ¬ n < 128) : vput n = b8 (n % 128 + 128) :: vput (n / 128) := by rw [vput, if_neg h]

theorem vput_len (k : Nat) : ∀ n, n < 128 ^ (k + 1) → (vput n).length ≤ k + 1 := by
  induction k with
  | zero => intro n hn; rw [vput_lt (by simpa using hn)]; simp
  | succ k ih =>
    intro n hn
    by_cases h : n < 128
    · rw [vput_lt h]; simp
    · rw [vput_ge h]
      have := ih (n / 128) (by rw [Nat.div_lt_iff_lt_mul (by decide)]; rwa [← Nat.pow_succ])
      simp; omega
theorem vput_len10 {n : Nat} (h : n < 18446744073709551616) : (vput n).length ≤ 10 :=
  vput_len 9 n (Nat.lt_of_lt_of_le h (by decide))

/-- A text of these bytes. -/
def txt (l : List UInt8) : ByteArray := ⟨l.toArray⟩
theorem txt_size (l : List UInt8) : (txt l).size = l.length := by simp [txt, ByteArray.size]
theorem txt_append (a b : List UInt8) : txt a ++ txt b = txt (a ++ b) := by unfold txt; exact ByteArray.mk_append_mk a b
theorem txt_toList (l : List UInt8) : (txt l).data.toList = l := by simp [txt]
theorem txt_of (s : ByteArray) : txt s.data.toList = s := by simp [txt]
theorem txt_inj {a b : List UInt8} (h : txt a = txt b) : a = b := by rw [← txt_toList a, h, txt_toList]

def u8s (l : List UInt8) : List Value := l.map fun b => Value.int .u8 b.toNat
theorem info5 : (Try.prog.info? 5).map (fun i => (i.zero, i.size, i.bytes)) = some (some (.int .u8 0), 1, 1) := by kernel_rfl

theorem own_text {w : World} {base : Nat} {v : Value} {n : Nat} {l : List UInt8} (hn : n = l.length) (h0 : 0 < n) (h : w.ownsRow base 5 1 v n (u8s l)) :
    (convert 151 9 v).run Try.prog w = .ok (.string (txt l)) w := by
  subst hn
  obtain ⟨g, cap, rfl, _, _⟩ := h.form h0
  refine run_convert_bytes_back w 151 9 5 ⟨g, 0, none⟩ cap l Try.underlying151 Try.underlying5 Try.underlying9 (fun j hj => ?_)
  exact h.cells (g := g) rfl j _ (by simp [u8s, List.getElem?_eq_getElem hj])

/-- A byte that goes on. -/
theorem low_or (m : Nat) : bits .or .u8 ((m : Int) % 256) 128 = ((m % 128 + 128 : Nat) : Int) := by
  have h := u8_or_nat (m % 256) 128 (Nat.mod_lt _ (by decide)) (by decide)
  rw [show ((m : Int) % 256) = ((m % 256 : Nat) : Int) by omega]
  refine h.trans ?_
  congr 1
  have : m % 256 = m / 128 % 2 * 128 + m % 128 := by omega
  rcases Nat.mod_two_eq_zero_or_one (m / 128) with h1 | h1
  · rw [this, h1, Nat.or_comm, nat_join 7 128 _ (by decide) (by omega)]
    omega
  · rw [this, h1]
    have hj := nat_join 7 128 (m % 128) (by decide) (by omega)
    rw [show 1 * 128 + m % 128 = 128 + m % 128 by omega, ← hj, Nat.or_assoc, Nat.or_comm (m % 128) 128, ← Nat.or_assoc, Nat.or_self]
    rw [hj]
    omega

theorem u8s_snoc (l : List UInt8) (k : Nat) (hk : k < 256) : u8s l ++ [Value.int .u8 (k : Int)] = u8s (l ++ [b8 k]) := by
  simp [u8s, b8_nat hk]

theorem own_base {w : World} {base : Nat} {e : TypeId} {size n : Nat} {v : Value} {xs : List Value} (h : w.ownsRow base e size v n xs) (k : Nat) (hk : v.ownBlock = some k) : base ≤ k := by
  rcases h.2 with ⟨rfl, _⟩ | ⟨g, cap, cur, rfl, hb, _⟩
  · simp [Value.ownBlock] at hk
  · have : g = k := by simpa [Value.ownBlock] using hk
    omega

set_option maxRecDepth 4000 in
set_option maxHeartbeats 1000000 in
theorem vPut_calls (n : Nat) (hn : n < 18446744073709551616) (w : World) :
    Calls Try.prog 90 #[.int .u64 n] w fun e w' => e = .returned (.string (txt (vput n))) ∧ Keeps [] w w' := by
  obtain ⟨i0, hi, hz0, hz1, hz2⟩ := info_parts info5
  have hlen := vput_len10 hn
  go_enter Try.func90, Try.ntmps90
  go_wp2_with fail
  go_step3
  go_wp2
  go_step3
  go_wp2
  go_loopw [0, 3] (fun v0 v3 wr => ∃ (m : Nat) (l : List UInt8), v0 = .int .u64 m ∧ m < 18446744073709551616 ∧ Aside (l ++ vput m = vput n) ∧
      wr.ownsRow w.heap.size 5 1 v3 l.length (u8s l) ∧ Keeps [] w wr) (fun v0 _ _ => (intOf v0).toNat)
  case atStart => exact ⟨n, [], rfl, hn, ⟨rfl⟩, World.ownsRow_nil _ _ _ _, Keeps.refl _ _⟩
  case round =>
    obtain ⟨m, l, rfl, hm, hA, hown, hk⟩ := hrel
    have hsz := hk.size
    have hl : l.length ≤ 10 := by have := congrArg List.length hA.out; simp at this; omega
    clear hlen
    by_cases hlt : m < 128
    · go_wp2_with (at_builtin; refine wpList_append_own _ rfl _ _ 151 rfl w.heap.size 5 i0 (.int .u8 0) 1 1 Try.underlying151 hi hz0 hz1 hz2 rfl (by decide) _ _ _ rfl (hown.alloc _) ⟨wr.heap.size, 0, none⟩ 1 1 [.int .u8 m] rfl rfl (cell_one_new _ _ _) ?c2 ?c3 ?c4 ?c5 ?_)
      case c2 => intro u hu; simp at hu; subst hu; rfl
      case c3 => unfold maxLen; omega
      case c4 => omega
      case c5 => simp; omega
      intro v1 w1 hown1 hg1 _
      have hk1 := (hk.alloc (.cells #[.int .u8 (m : Int)] 5)).grown hg1 (fun k e => .inr (own_base hown k e))
      rw [u8s_snoc l m (by omega)] at hown1
      have hcv := own_text (by simp) (by omega) hown1
      have hfin : l ++ [b8 m] = vput n := by rw [← vput_lt hlt]; exact hA.out
      rw [hfin] at hcv
      clear hown hown1 hg1 hA hfin
      go_wp2
      rw [Exit.noGoto_ret]
      go_ret
      exact ⟨rfl, hk1⟩
    · have hlo := low_or m
      go_wp2_with (at_builtin; refine wpList_append_own _ rfl _ _ 151 rfl w.heap.size 5 i0 (.int .u8 0) 1 1 Try.underlying151 hi hz0 hz1 hz2 rfl (by decide) _ _ _ rfl (hown.alloc _) ⟨wr.heap.size, 0, none⟩ 1 1 [.int .u8 ((m : Int) % 128 + 128)] rfl rfl (cell_one_new _ _ _) ?c2 ?c3 ?c4 ?c5 ?_)
      case c2 => intro u hu; simp at hu; subst hu; rfl
      case c3 => unfold maxLen; omega
      case c4 => omega
      case c5 => simp; omega
      intro v1 w1 hown1 hg1 _
      have hk1 := (hk.alloc (.cells #[.int .u8 ((m : Int) % 128 + 128)] 5)).grown hg1 (fun k e => .inr (own_base hown k e))
      have e1 : (m : Int) % 128 + 128 = ((m % 128 + 128 : Nat) : Int) := by omega
      rw [e1, u8s_snoc l _ (by omega)] at hown1
      have hn1 : Aside ((l ++ [b8 (m % 128 + 128)]) ++ vput (m / 128) = vput n) := ⟨by rw [List.append_assoc, List.singleton_append, ← vput_ge hlt]; exact hA.out⟩
      have hown2 : w1.ownsRow w.heap.size 5 1 v1 (l ++ [b8 (m % 128 + 128)]).length (u8s (l ++ [b8 (m % 128 + 128)])) := by simpa using hown1
      clear hown hown1 hg1 hA e1 hlo
      go_wp2
      go_roundw
      case rel => exact ⟨m / 128, l ++ [b8 (m % 128 + 128)], int_u64 (by omega), by omega, hn1, hown2, hk1⟩
      case measure => simp [intOf]; omega

end Go.Proofs.Ythcjcgagbpfkpaa

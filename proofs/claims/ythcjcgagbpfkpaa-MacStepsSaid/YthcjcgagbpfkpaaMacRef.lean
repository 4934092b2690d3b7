/- ref21: Epoch, Knows over rows as they lie. -/
import Derived.Test.YthcjcgagbpfkpaaMacNone
namespace Go.Proofs.Ythcjcgagbpfkpaa
set_option linter.unusedVariables false
set_option linter.unusedSimpArgs false
open Go.RowKit

abbrev Row := Nat × Nat × Nat × Bool
def rowCells (r : Row) : List Value := [.int .i64 r.1, .int .i64 r.2.1, .int .u64 r.2.2.1, .bool r.2.2.2]
def flatR (l : List Row) : List Value := l.flatMap rowCells

/-- Rows as they lie. -/
def RowsAt (w : World) (a : Option Addr) (l : List Row) : Prop :=
  ∀ i (h : i < l.length), ∃ g, a = some ⟨g, 0, none⟩ ∧ w.cell? ⟨g, i * 4, none⟩ = some (.int .i64 (l[i].1 : Nat)) ∧ w.cell? ⟨g, i * 4 + 1, none⟩ = some (.int .i64 (l[i].2.1 : Nat)) ∧
    w.cell? ⟨g, i * 4 + 2, none⟩ = some (.int .u64 (l[i].2.2.1 : Nat)) ∧ w.cell? ⟨g, i * 4 + 3, none⟩ = some (.bool l[i].2.2.2)

def cnt (l : List Row) (o : Int) : Nat := (l.filter (fun r => (r.1 : Int) == o)).length
def anyR (l : List Row) (o e : Int) (t : Nat) : Bool := l.any (fun r => r.2.2.2 && ((r.1 : Int) == o) && ((r.2.1 : Int) == e) && (r.2.2.1 == t))

theorem cnt_take (l : List Row) (o : Int) (k : Nat) (hk : k < l.length) : cnt (l.take (k + 1)) o = cnt (l.take k) o + (if (l[k].1 : Int) = o then 1 else 0) := by
  unfold cnt
  rw [List.take_add_one, List.getElem?_eq_getElem hk, Option.toList_some, List.filter_append, List.length_append]
  congr 1
  by_cases h : (l[k].1 : Int) = o
  · rw [if_pos h]; simp [h]
  · rw [if_neg h]; simp [h]
theorem cnt_le (l : List Row) (o : Int) : cnt l o ≤ l.length := List.length_filter_le _ _

set_option maxRecDepth 4000 in
set_option maxHeartbeats 2000000 in
theorem rEpoch_calls (a : Option Addr) (len cap : Nat) (l : List Row) (hl : l.length = len) (hlen : len ≤ 100000) (o : Int) (w : World) (h : RowsAt w a l) :
    Calls Try.prog 57 #[.slice a len cap, .int .i64 o] w fun e w' => e = .returned (.int .i64 (cnt l o : Nat)) ∧ w = w' := by
  have HR := Aside.mk h
  have HL := Aside.mk hl
  clear h hl
  go_enter Try.func57, Try.ntmps57
  go_wp2
  go_loop [5, 6] (fun v5 v6 => ∃ k n : Nat, k ≤ len ∧ v6 = .int .i64 k ∧ v5 = .int .i64 n ∧ n ≤ k ∧ Aside (n = cnt (l.take k) o)) (fun _ v6 => len - (intOf v6).toNat)
  case atStart => exact ⟨0, 0, by omega, rfl, rfl, by omega, ⟨rfl⟩⟩
  case round =>
    obtain ⟨k, n, hk, rfl, rfl, hnk, hn⟩ := hrel
    by_cases hlt : k < len
    · have hkL : k < l.length := by rw [HL.out]; exact hlt
      obtain ⟨g, rfl, c0, c1, c2, c3⟩ := HR.out k hkL
      have hc := cnt_take l o k hkL
      obtain ⟨q, hq⟩ : ∃ q, q = l[k].1 := ⟨_, rfl⟩
      rw [← hq] at c0 hc
      rw [← hn.out] at hc
      have HC := Aside.mk hc
      clear hq hc c1 c2 c3 hkL
      by_cases he : (q : Int) = o
      · have hb : ((q : Int) == o) = true := by rw [beq_iff_eq]; exact he
        have HE := Aside.mk he
        clear he
        go_wp2
        go_round
        case rel => exact ⟨k + 1, n + 1, by omega, by go_num, by go_num, by omega, ⟨by rw [HC.out, if_pos HE.out]⟩⟩
        case measure => simp [intOf]; omega
      · have hb : ((q : Int) == o) = false := by rw [beq_eq_false_iff_ne]; exact he
        have HE := Aside.mk he
        clear he
        go_wp2
        go_round
        case rel => exact ⟨k + 1, n, by omega, by go_num, rfl, by omega, ⟨by rw [HC.out, if_neg HE.out]; rfl⟩⟩
        case measure => simp [intOf]; omega
    · have hf : Aside (n = cnt l o) := ⟨by rw [hn.out, List.take_of_length_le (by rw [HL.out]; omega)]⟩
      clear hn
      go_wp2
      go_ret
      exact ⟨by rw [← hf.out]; rfl, rfl⟩

def rowIs (r : Row) (o e : Int) (t : Nat) : Bool := r.2.2.2 && ((r.1 : Int) == o) && ((r.2.1 : Int) == e) && (r.2.2.1 == t)
theorem any_take (l : List Row) (o e : Int) (t : Nat) (k : Nat) (hk : k < l.length) : anyR (l.take (k + 1)) o e t = (anyR (l.take k) o e t || rowIs l[k] o e t) := by
  unfold anyR rowIs
  rw [List.take_add_one, List.getElem?_eq_getElem hk, Option.toList_some, List.any_append]
  simp
theorem any_hit (l : List Row) (o e : Int) (t : Nat) (k : Nat) (hk : k < l.length) (h : rowIs l[k] o e t = true) : anyR l o e t = true := by
  unfold anyR
  rw [List.any_eq_true]
  exact ⟨l[k], List.getElem_mem hk, h⟩

set_option maxRecDepth 8000 in
set_option maxHeartbeats 4000000 in
theorem rKnows_calls (a : Option Addr) (len cap : Nat) (l : List Row) (hl : l.length = len) (hlen : len ≤ 100000) (o e : Int) (t : Nat) (w : World) (h : RowsAt w a l) :
    Calls Try.prog 59 #[.slice a len cap, .int .i64 o, .int .i64 e, .int .u64 t] w fun r w' => r = .returned (.bool (anyR l o e t)) ∧ w = w' := by
  have HR := Aside.mk h
  have HL := Aside.mk hl
  clear h hl
  go_enter Try.func59, Try.ntmps59
  go_wp2
  go_loop [9] (fun v9 => ∃ k : Nat, k ≤ len ∧ v9 = .int .i64 k ∧ Aside (anyR (l.take k) o e t = false)) (fun v9 => len - (intOf v9).toNat)
  case atStart => exact ⟨0, by omega, rfl, ⟨rfl⟩⟩
  case round =>
    obtain ⟨k, hk, rfl, hn⟩ := hrel
    by_cases hlt : k < len
    · have hkL : k < l.length := by rw [HL.out]; exact hlt
      obtain ⟨g, rfl, c0, c1, c2, c3⟩ := HR.out k hkL
      have hc := any_take l o e t k hkL
      have hh := any_hit l o e t k hkL
      obtain ⟨⟨q0, q1, q2, q3⟩, hq⟩ : ∃ q, q = l[k] := ⟨_, rfl⟩
      rw [← hq] at c0 c1 c2 c3 hc hh
      rw [hn.out, Bool.false_or] at hc
      dsimp only at c0 c1 c2 c3
      have HC := Aside.mk hc
      have HH := Aside.mk hh
      clear hq hc hh hkL hn
      cases q3
      · have hx : Aside (anyR (l.take (k + 1)) o e t = false) := ⟨by rw [HC.out]; simp [rowIs]⟩
        clear HC HH
        go_wp2
        go_round
        case rel => exact ⟨k + 1, by omega, by go_num, hx⟩
        case measure => simp [intOf]; omega
      · by_cases h0 : (q0 : Int) = o
        · have b0 : ((q0 : Int) == o) = true := by rw [beq_iff_eq]; exact h0
          by_cases h1 : (q1 : Int) = e
          · have b1 : ((q1 : Int) == e) = true := by rw [beq_iff_eq]; exact h1
            by_cases h2 : q2 = t
            · have b2 : ((q2 : Int) == t) = true := by rw [beq_iff_eq]; omega
              have hx : Aside (anyR l o e t = true) := ⟨HH.out (by simp [rowIs, h0, h1, h2])⟩
              clear HC HH h0 h1 h2
              go_wp2
              go_ret
              exact ⟨by rw [hx.out]; rfl, rfl⟩
            · have b2 : ((q2 : Int) == t) = false := by rw [beq_eq_false_iff_ne]; omega
              have hx : Aside (anyR (l.take (k + 1)) o e t = false) := ⟨by rw [HC.out]; simp [rowIs, h2]⟩
              clear HC HH h0 h1 h2
              go_wp2
              go_round
              case rel => exact ⟨k + 1, by omega, by go_num, hx⟩
              case measure => simp [intOf]; omega
          · have b1 : ((q1 : Int) == e) = false := by rw [beq_eq_false_iff_ne]; exact h1
            have hx : Aside (anyR (l.take (k + 1)) o e t = false) := ⟨by rw [HC.out]; simp [rowIs, h1]⟩
            clear HC HH h0 h1
            go_wp2
            go_round
            case rel => exact ⟨k + 1, by omega, by go_num, hx⟩
            case measure => simp [intOf]; omega
        · have b0 : ((q0 : Int) == o) = false := by rw [beq_eq_false_iff_ne]; exact h0
          have hx : Aside (anyR (l.take (k + 1)) o e t = false) := ⟨by rw [HC.out]; simp [rowIs, h0]⟩
          clear HC HH h0
          go_wp2
          go_round
          case rel => exact ⟨k + 1, by omega, by go_num, hx⟩
          case measure => simp [intOf]; omega
    · have hf : Aside (anyR l o e t = false) := ⟨by rw [← hn.out, List.take_of_length_le (by rw [HL.out]; omega)]⟩
      clear hn
      go_wp2
      go_ret
      exact ⟨by rw [hf.out]; rfl, rfl⟩
end Go.Proofs.Ythcjcgagbpfkpaa

/- ref21.Revoke: a copy with nothing of an owner known. -/
import Derived.Test.YthcjcgagbpfkpaaMacRef
import Derived.OwnWalk
import Derived.Laws.OwnMore
import Derived.Deep.AppendLies
namespace Go.Proofs.Ythcjcgagbpfkpaa
set_option linter.unusedVariables false
set_option linter.unusedSimpArgs false
open Go.RowKit

theorem info78 : (Try.prog.info? 78).map (fun i => (i.zero, i.size, i.bytes)) = some (some (.agg #[.int .i64 0, .int .i64 0, .int .u64 0, .bool false]), 4, 32) := by kernel_rfl

theorem rowCells_len (r : Row) : (rowCells r).length = 4 := rfl
theorem flatR_get (l : List Row) : ∀ j : Nat, (flatR l)[j]? = (l[j / 4]?).bind fun r => (rowCells r)[j % 4]? := by
  induction l with
  | nil => intro j; simp [flatR]
  | cons r l ih =>
    intro j
    have e : flatR (r :: l) = rowCells r ++ flatR l := by simp [flatR]
    rw [e]
    by_cases h : j < 4
    · rw [List.getElem?_append_left (by rw [rowCells_len]; exact h), show j / 4 = 0 by omega, show j % 4 = j by omega]
      rfl
    · rw [List.getElem?_append_right (by rw [rowCells_len]; omega), rowCells_len, ih (j - 4), show j / 4 = (j - 4) / 4 + 1 by omega, show j % 4 = (j - 4) % 4 by omega, List.getElem?_cons_succ]
theorem flatR_len (l : List Row) : (flatR l).length = l.length * 4 := by
  induction l with
  | nil => rfl
  | cons a l ih =>
    have e : flatR (a :: l) = rowCells a ++ flatR l := by simp [flatR]
    rw [e, List.length_append, ih, rowCells_len, List.length_cons]
    omega
theorem flatR_snoc (l : List Row) (r : Row) : flatR l ++ rowCells r = flatR (l ++ [r]) := by simp [flatR]
def unk (r : Row) : Row := (r.1, r.2.1, r.2.2.1, false)
theorem flatR_set (l : List Row) (i : Nat) (r : Row) (hr : l[i]? = some r) : (flatR l).set (i * 4 + 3) (.bool false) = flatR (l.set i (unk r)) := by
  have hi : i < l.length := (List.getElem?_eq_some_iff.1 hr).1
  apply List.ext_getElem?
  intro j
  rw [List.getElem?_set, flatR_get, flatR_get, List.getElem?_set]
  by_cases hj : i * 4 + 3 = j
  · rw [if_pos hj, if_pos (by rw [flatR_len]; omega), if_pos (by omega), if_pos (by omega)]
    rw [show j % 4 = 3 by omega]
    rfl
  · rw [if_neg hj]
    by_cases hq : i = j / 4
    · rw [if_pos hq, if_pos (by omega), ← hq, hr]
      show (rowCells r)[j % 4]? = (rowCells (unk r))[j % 4]?
      have h3 : j % 4 = 0 ∨ j % 4 = 1 ∨ j % 4 = 2 := by omega
      rcases h3 with h3 | h3 | h3 <;> rw [h3] <;> rfl
    · rw [if_neg hq]

/-- What is owned, as rows that lie. -/
theorem rows_of_owns {w : World} {base g cap : Nat} {l : List Row} (h : w.ownsRow base 78 4 (.slice (some ⟨g, 0, none⟩) l.length cap) l.length (flatR l)) : RowsAt w (some ⟨g, 0, none⟩) l := by
  intro i hi
  have c : ∀ c, c < 4 → w.cell? ⟨g, i * 4 + c, none⟩ = (rowCells l[i])[c]? := by
    intro c hc
    rw [h.cellAt (i * 4 + c) (by omega), flatR_get, show (i * 4 + c) / 4 = i by omega, show (i * 4 + c) % 4 = c by omega, List.getElem?_eq_getElem hi]
    rfl
  exact ⟨g, rfl, c 0 (by omega), c 1 (by omega), c 2 (by omega), c 3 (by omega)⟩
theorem rows_news {w : World} {x : Addr} {l : List Row} (h : RowsAt w (some x) l) : ∀ j u, (flatR l)[j]? = some u → w.cell? (x.add j) = some u := by
  intro j u hu
  rw [flatR_get] at hu
  obtain ⟨r, hr, hc⟩ := Option.bind_eq_some_iff.1 hu
  obtain ⟨hi, hri⟩ := List.getElem?_eq_some_iff.1 hr
  obtain ⟨g, hg, c0, c1, c2, c3⟩ := h (j / 4) hi
  obtain rfl : x = ⟨g, 0, none⟩ := by simpa using hg
  have hadd : (⟨g, 0, none⟩ : Addr).add j = ⟨g, j, none⟩ := by
    unfold Addr.add
    split
    · simp_all
    · simp
  rw [hadd]
  rw [hri] at c0 c1 c2 c3
  have h4 : j % 4 = 0 ∨ j % 4 = 1 ∨ j % 4 = 2 ∨ j % 4 = 3 := by omega
  rcases h4 with h4 | h4 | h4 | h4
  · rw [h4] at hc; rw [show j = j / 4 * 4 by omega, c0]; exact hc
  · rw [h4] at hc; rw [show j = j / 4 * 4 + 1 by omega, c1]; exact hc
  · rw [h4] at hc; rw [show j = j / 4 * 4 + 2 by omega, c2]; exact hc
  · rw [h4] at hc; rw [show j = j / 4 * 4 + 3 by omega, c3]; exact hc
theorem rows_one (l : List Row) : ∀ u ∈ flatR l, u.oneCell' = true := by
  intro u hu
  simp only [flatR, List.mem_flatMap] at hu
  obtain ⟨r, _, hr⟩ := hu
  simp only [rowCells, List.mem_cons, List.not_mem_nil, or_false] at hr
  rcases hr with rfl | rfl | rfl | rfl <;> rfl

/-- With nothing of an owner known. -/
def rvk (l : List Row) (o : Int) : List Row := l.map fun r => if (r.1 : Int) = o then unk r else r
def wasK (l : List Row) (o : Int) : Bool := l.any fun r => ((r.1 : Int) == o) && r.2.2.2
theorem rvk_len (l : List Row) (o : Int) : (rvk l o).length = l.length := by simp [rvk]
theorem was_take (l : List Row) (o : Int) (k : Nat) (hk : k < l.length) : wasK (l.take (k + 1)) o = (wasK (l.take k) o || (((l[k].1 : Int) == o) && l[k].2.2.2)) := by
  unfold wasK
  rw [List.take_add_one, List.getElem?_eq_getElem hk, Option.toList_some, List.any_append]
  simp
theorem rvk_take (l : List Row) (o : Int) (k : Nat) (hk : k < l.length) :
    rvk (l.take (k + 1)) o ++ l.drop (k + 1) = (rvk (l.take k) o ++ l.drop k).set k (if (l[k].1 : Int) = o then unk l[k] else l[k]) := by
  have hlen : (rvk (l.take k) o).length = k := by rw [rvk_len, List.length_take]; omega
  rw [List.set_append_right _ _ (by omega), hlen, Nat.sub_self, List.drop_eq_getElem_cons hk, List.set_cons_zero]
  unfold rvk
  rw [List.take_add_one, List.getElem?_eq_getElem hk, Option.toList_some, List.map_append]
  simp
theorem rvk_at (l : List Row) (o : Int) (k : Nat) (hk : k < l.length) : (rvk (l.take k) o ++ l.drop k)[k]? = some l[k] := by
  have hlen : (rvk (l.take k) o).length = k := by rw [rvk_len, List.length_take]; omega
  rw [List.getElem?_append_right (by omega), hlen, Nat.sub_self, List.drop_eq_getElem_cons hk]
  rfl
end Go.Proofs.Ythcjcgagbpfkpaa

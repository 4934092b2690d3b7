/- MacSteps, the plain law: the table and the rows tell the same. -/
import Derived.Test.YthcjcgagbpfkpaaMacIssue
namespace Go.Proofs.Ythcjcgagbpfkpaa
set_option linter.unusedVariables false
set_option linter.unusedSimpArgs false
open Go.RowKit

structure Tied (T : Nat → Nat × Nat × Nat) (l : List Row) : Prop where
  own : ∀ r ∈ l, r.1 < 9 ∧ 0 < r.2.2.1 ∧ r.2.2.1 < 18446744073709551616
  kn : ∀ r ∈ l, r.2.2.2 = true → (T r.1).2 = (r.2.1, r.2.2.1)
  has : ∀ o, o < 9 → (T o).2.2 ≠ 0 → (o, (T o).2.1, (T o).2.2, true) ∈ l
  cn : ∀ o, o < 9 → (T o).1 = cnt l o
  zero : ∀ o, o < 9 → (T o).2.2 = 0 → (T o).2 = (0, 0)

theorem Tied.nil : Tied (fun _ => (0, 0, 0)) [] :=
  ⟨fun r h => by simp at h, fun r h => by simp at h, fun o _ h => absurd rfl h, fun o _ => rfl, fun o _ _ => rfl⟩

section
variable {T : Nat → Nat × Nat × Nat} {l : List Row}
theorem Tied.any (h : Tied T l) (o e : Int) (t : Nat) : anyR l o e t = known T o e t := by
  rw [Bool.eq_iff_iff]
  unfold anyR known
  rw [List.any_eq_true, decide_eq_true_eq]
  constructor
  · rintro ⟨⟨q0, q1, q2, q3⟩, hm, hr⟩
    simp only [Bool.and_eq_true, beq_iff_eq] at hr
    obtain ⟨⟨⟨h3, h0⟩, h1⟩, h2⟩ := hr
    have a := h.own _ hm
    have b := h.kn _ hm h3
    dsimp only at a b
    subst h0
    rw [Int.toNat_natCast, b]
    dsimp only
    omega
  · rintro ⟨h0, h1, h2, h3, h4⟩
    have m := h.has o.toNat (by omega) (by omega)
    refine ⟨_, m, ?_⟩
    simp only [Bool.and_eq_true, beq_iff_eq]
    exact ⟨⟨⟨by trivial, by omega⟩, h3⟩, h4⟩
theorem Tied.was (h : Tied T l) {o : Nat} (ho : o < 9) : wasK l o = decide ((T o).2.2 ≠ 0) := by
  rw [Bool.eq_iff_iff]
  unfold wasK
  rw [List.any_eq_true, decide_eq_true_eq]
  constructor
  · rintro ⟨⟨q0, q1, q2, q3⟩, hm, hr⟩
    simp only [Bool.and_eq_true, beq_iff_eq] at hr
    have a := h.own _ hm
    have b := h.kn _ hm hr.2
    dsimp only at a b
    have : q0 = o := by omega
    subst this
    rw [b]
    dsimp only
    omega
  · intro h0
    exact ⟨_, h.has o ho h0, by simp⟩
theorem Tied.was_no (h : Tied T l) {o : Int} (ho : o < 0 ∨ 8 < o) : wasK l o = false := by
  unfold wasK
  rw [List.any_eq_false]
  intro r hr
  have := (h.own r hr).1
  have hb : ((r.1 : Int) == o) = false := by rw [beq_eq_false_iff_ne]; omega
  simp [hb]
theorem Tied.rvk_no (h : Tied T l) {o : Int} (ho : o < 0 ∨ 8 < o) : rvk l o = l := by
  unfold rvk
  have : ∀ r ∈ l, (if (r.1 : Int) = o then unk r else r) = r := by
    intro r hr
    have := (h.own r hr).1
    rw [if_neg (by omega)]
  rw [List.map_congr_left this, List.map_id'']
  intro x
  rfl
theorem Tied.cnt_no (h : Tied T l) {o : Int} (ho : o < 0 ∨ 8 < o) : cnt l o = 0 := by
  unfold cnt
  rw [List.length_eq_zero_iff, List.filter_eq_nil_iff]
  intro r hr
  have := (h.own r hr).1
  simp only [beq_iff_eq]
  omega
theorem cnt_rvk (l : List Row) (o p : Int) : cnt (rvk l o) p = cnt l p := by
  unfold cnt rvk
  induction l with
  | nil => rfl
  | cons r l ih =>
    simp only [List.map_cons, List.filter_cons]
    have e : ((if (r.1 : Int) = o then unk r else r).1) = r.1 := by
      split <;> rfl
    rw [e]
    split
    · simp only [List.length_cons, ih]
    · exact ih
theorem mem_rvk {o : Int} {r : Row} (h : r ∈ rvk l o) : ∃ q ∈ l, q.1 = r.1 ∧ q.2.1 = r.2.1 ∧ q.2.2.1 = r.2.2.1 ∧ (r.2.2.2 = true → (q.1 : Int) ≠ o ∧ q = r) := by
  unfold rvk at h
  obtain ⟨q, hq, rfl⟩ := List.mem_map.1 h
  refine ⟨q, hq, ?_⟩
  by_cases he : (q.1 : Int) = o
  · rw [if_pos he]
    exact ⟨rfl, rfl, rfl, fun hf => by simp [unk] at hf⟩
  · rw [if_neg he]
    exact ⟨rfl, rfl, rfl, fun _ => ⟨he, rfl⟩⟩
theorem rvk_mem {o : Int} {r : Row} (h : r ∈ l) (hr : (r.1 : Int) ≠ o) : r ∈ rvk l o := by
  unfold rvk
  exact List.mem_map.2 ⟨r, h, if_neg hr⟩

theorem Tied.revoke (h : Tied T l) {o : Nat} (ho : o < 9) : Tied (upd T o ((T o).1, 0, 0)) (rvk l o) := by
  refine ⟨?_, ?_, ?_, ?_, ?_⟩
  · intro r hr
    obtain ⟨q, hq, e1, e2, e3, _⟩ := mem_rvk hr
    rw [← e1, ← e3]
    exact h.own q hq
  · intro r hr hk
    obtain ⟨q, hq, e1, e2, e3, e4⟩ := mem_rvk hr
    obtain ⟨hne, rfl⟩ := e4 hk
    rw [upd_ne _ _ (by omega)]
    exact h.kn q hq hk
  · intro p hp hz
    by_cases hpo : p = o
    · subst hpo
      rw [upd_eq] at hz
      exact absurd rfl hz
    · rw [upd_ne _ _ hpo] at hz ⊢
      exact rvk_mem (h.has p hp hz) (by dsimp only; omega)
  · intro p hp
    rw [cnt_rvk]
    by_cases hpo : p = o
    · subst hpo
      rw [upd_eq]
      exact h.cn p hp
    · rw [upd_ne _ _ hpo]
      exact h.cn p hp
  · intro p hp hz
    by_cases hpo : p = o
    · subst hpo
      rw [upd_eq]
    · rw [upd_ne _ _ hpo] at hz ⊢
      exact h.zero p hp hz

theorem tagOf_lt (x e o : Nat) : tagOf x e o < 18446744073709551616 := by
  unfold tagOf
  have := mixN_lt x (256 * e + o)
  omega
theorem Tied.issue (h : Tied T l) {o : Nat} (ho : o < 9) (n : Nat) : Tied (upd T o ((T o).1 + 1, (T o).1 + 1, tagOf n ((T o).1 + 1) o)) (issue l o n) := by
  have hr := h.revoke ho
  have hcn := h.cn o ho
  unfold Go.Proofs.Ythcjcgagbpfkpaa.issue
  rw [← hcn]
  refine ⟨?_, ?_, ?_, ?_, ?_⟩
  · intro r hm
    rcases List.mem_append.1 hm with hm | hm
    · exact hr.own r hm
    · simp only [List.mem_singleton] at hm
      subst hm
      exact ⟨ho, tagOf_pos _ _ _, tagOf_lt _ _ _⟩
  · intro r hm hk
    rcases List.mem_append.1 hm with hm | hm
    · obtain ⟨q, hq, e1, e2, e3, e4⟩ := mem_rvk hm
      obtain ⟨hne, rfl⟩ := e4 hk
      rw [upd_ne _ _ (by omega)]
      exact h.kn q hq hk
    · simp only [List.mem_singleton] at hm
      subst hm
      rw [upd_eq]
  · intro p hp hz
    by_cases hpo : p = o
    · subst hpo
      rw [upd_eq]
      simp
    · rw [upd_ne _ _ hpo] at hz ⊢
      exact List.mem_append_left _ (rvk_mem (h.has p hp hz) (by dsimp only; omega))
  · intro p hp
    have ha : ∀ (x y : List Row) (q : Int), cnt (x ++ y) q = cnt x q + cnt y q := by
      intro x y q
      unfold cnt
      rw [List.filter_append, List.length_append]
    rw [ha, cnt_rvk]
    by_cases hpo : p = o
    · subst hpo
      rw [upd_eq, hcn]
      simp [cnt]
    · rw [upd_ne _ _ hpo, h.cn p hp]
      have hb : ((o : Int) == (p : Int)) = false := by rw [beq_eq_false_iff_ne]; omega
      simp [cnt, hb]
  · intro p hp hz
    by_cases hpo : p = o
    · subst hpo
      rw [upd_eq] at hz
      have := tagOf_pos n ((T p).1 + 1) p
      dsimp only at hz
      omega
    · rw [upd_ne _ _ hpo] at hz ⊢
      exact h.zero p hp hz
end
end Go.Proofs.Ythcjcgagbpfkpaa

/- The table of tags: New, Issue, Revoke, Knows, Epoch over its block. -/
import Derived.Test.YthcjcgagbpfkpaaDice
import Derived.Test.YthcjcgagbpfkpaaDiceMixes
namespace Go.Proofs.Ythcjcgagbpfkpaa
set_option linter.unusedVariables false
set_option linter.unusedSimpArgs false
open Go.RowKit

/-- Block R is a table: of each owner how often something was issued, and the badge. -/
structure MacAt (w : World) (R : Nat) (T : Nat → Nat × Nat × Nat) (cs : Array Value) : Prop where
  blk : Whole w R 97 cs
  size : cs.size = 27
  ep : ∀ o, o < 9 → cs[o]? = some (.int .i64 ((T o).1 : Nat))
  be : ∀ o, o < 9 → cs[9 + o * 2]? = some (.int .i64 ((T o).2.1 : Nat))
  bt : ∀ o, o < 9 → cs[9 + o * 2 + 1]? = some (.int .u64 ((T o).2.2 : Nat))
def Mac (w : World) (R : Nat) (T : Nat → Nat × Nat × Nat) : Prop := ∃ cs, MacAt w R T cs

theorem Mac.keeps {w w' : World} {R : Nat} {T : Nat → Nat × Nat × Nat} {L : List Nat} (h : Mac w R T) (k : Keeps L w w') (hR : R ∉ L) : Mac w' R T := by
  obtain ⟨cs, hm⟩ := h
  exact ⟨cs, { hm with blk := k.whole hm.blk hR }⟩
theorem Mac.lt {w : World} {R : Nat} {T : Nat → Nat × Nat × Nat} (h : Mac w R T) : R < w.heap.size := by
  obtain ⟨cs, hm⟩ := h
  exact hm.blk.lt

def macZero : Array Value := (List.replicate 9 (Value.int .i64 0) ++ (List.replicate 9 [Value.int .i64 0, Value.int .u64 0]).flatten).toArray
theorem Mac.new (w : World) : Mac (w.alloc (.cells macZero 97)) w.heap.size (fun _ => (0, 0, 0)) := by
  refine ⟨macZero, Whole.new _ _ _, rfl, ?_, ?_, ?_⟩
  all_goals
    intro o ho
    match o, ho with
    | 0, _ => rfl
    | 1, _ => rfl
    | 2, _ => rfl
    | 3, _ => rfl
    | 4, _ => rfl
    | 5, _ => rfl
    | 6, _ => rfl
    | 7, _ => rfl
    | 8, _ => rfl

theorem owns_yes (o : Nat) (ho : o < 9) (w : World) : Calls Try.prog 101 #[.int .i64 o] w fun e w' => e = .returned (.bool true) ∧ w = w' := by
  have h1 : (o : Int) ≤ 8 := by omega
  go_enter Try.func101, Try.ntmps101
  go_wp2
  go_ret
  exact ⟨rfl, rfl⟩
theorem owns_no (o : Int) (ho : o < 0 ∨ 8 < o) (w : World) : Calls Try.prog 101 #[.int .i64 o] w fun e w' => e = .returned (.bool false) ∧ w = w' := by
  rcases ho with h | h
  · go_enter Try.func101, Try.ntmps101
    go_wp2
    go_ret
    exact ⟨rfl, rfl⟩
  · have h0 : 0 ≤ o := by omega
    go_enter Try.func101, Try.ntmps101
    go_wp2
    go_ret
    refine ⟨?_, rfl⟩
    simp
    omega

theorem mNew (w : World) : Calls Try.prog 51 #[] w fun e w' => e = .returned (.pointer (some ⟨w.heap.size, 0, none⟩)) ∧ Mac w' w.heap.size (fun _ => (0, 0, 0)) ∧ Keeps [] w w' := by
  go_enter Try.func51, Try.ntmps51
  go_wp2
  go_ret
  exact ⟨rfl, Mac.new w, (Keeps.refl _ _).alloc _⟩

theorem mEpoch (R : Nat) (T : Nat → Nat × Nat × Nat) (o : Nat) (ho : o < 9) (w : World) (h : Mac w R T) :
    Calls Try.prog 56 #[.pointer (some ⟨R, 0, none⟩), .int .i64 o] w fun e w' => e = .returned (.int .i64 ((T o).1 : Nat)) ∧ w = w' := by
  obtain ⟨cs, hm⟩ := h
  have hc : w.cell? ⟨R, o, none⟩ = some (.int .i64 ((T o).1 : Nat)) := (hm.blk.cell o).trans (hm.ep o ho)
  clear hm
  go_enter Try.func56, Try.ntmps56
  go_wp2_with fail
  refine (owns_yes o ho _).mono ?_
  rintro e' w1 ⟨rfl, rfl⟩
  go_wp2_with fail
  go_ret
  exact ⟨rfl, rfl⟩
theorem mEpoch_nil (o : Int) (w : World) : Calls Try.prog 56 #[.pointer none, .int .i64 o] w fun e w' => e = .returned (.int .i64 0) ∧ w = w' := by
  go_enter Try.func56, Try.ntmps56
  go_wp2
  go_ret
  exact ⟨rfl, rfl⟩
theorem mEpoch_no (R : Nat) (o : Int) (ho : o < 0 ∨ 8 < o) (w : World) : Calls Try.prog 56 #[.pointer (some ⟨R, 0, none⟩), .int .i64 o] w fun e w' => e = .returned (.int .i64 0) ∧ w = w' := by
  have HO := Aside.mk ho
  clear ho
  go_enter Try.func56, Try.ntmps56
  go_wp2_with fail
  refine (owns_no o HO.out _).mono ?_
  rintro e' w1 ⟨rfl, rfl⟩
  go_wp2_with fail
  go_ret
  exact ⟨rfl, rfl⟩

theorem mKnows_nil (o ep : Int) (tag : Nat) (w : World) : Calls Try.prog 58 #[.pointer none, .int .i64 o, .int .i64 ep, .int .u64 tag] w fun e w' => e = .returned (.bool false) ∧ w = w' := by
  go_enter Try.func58, Try.ntmps58
  go_wp2
  go_ret
  exact ⟨rfl, rfl⟩
/-- What a table knows. -/
def known (T : Nat → Nat × Nat × Nat) (o ep : Int) (tag : Nat) : Bool := decide (0 ≤ o ∧ o < 9 ∧ tag ≠ 0 ∧ ((T o.toNat).2.1 : Int) = ep ∧ (T o.toNat).2.2 = tag)

set_option maxHeartbeats 1000000 in
theorem mKnows (R : Nat) (T : Nat → Nat × Nat × Nat) (o ep : Int) (tag : Nat) (w : World) (h : Mac w R T) :
    Calls Try.prog 58 #[.pointer (some ⟨R, 0, none⟩), .int .i64 o, .int .i64 ep, .int .u64 tag] w fun e w' => e = .returned (.bool (known T o ep tag)) ∧ w = w' := by
  by_cases ho : o < 0 ∨ 8 < o
  · have hk : known T o ep tag = false := by
      unfold known
      rw [decide_eq_false_iff_not]
      omega
    have HO := Aside.mk ho
    have HK := Aside.mk hk
    clear ho hk
    go_enter Try.func58, Try.ntmps58
    go_wp2_with fail
    refine (owns_no o HO.out _).mono ?_
    rintro e' w1 ⟨rfl, rfl⟩
    go_wp2_with fail
    go_ret
    exact ⟨by rw [HK.out]; rfl, rfl⟩
  · obtain ⟨o, rfl⟩ : ∃ k : Nat, o = k := ⟨o.toNat, by omega⟩
    have ho9 : o < 9 := by omega
    clear ho
    obtain ⟨cs, hm⟩ := h
    obtain ⟨a, b, hab⟩ : ∃ a b, (T o).2 = (a, b) := ⟨_, _, rfl⟩
    have ha : (T o).2.1 = a := by rw [hab]
    have hb : (T o).2.2 = b := by rw [hab]
    have hc : w.cell? ⟨R, 9 + o * 2, none⟩ = some (.int .i64 (a : Nat)) := ha ▸ (hm.blk.cell _).trans (hm.be o ho9)
    have hd : w.cell? ⟨R, 9 + o * 2 + 1, none⟩ = some (.int .u64 (b : Nat)) := hb ▸ (hm.blk.cell _).trans (hm.bt o ho9)
    have HO := Aside.mk (owns_yes o ho9)
    have hk : known T o ep tag = decide (tag ≠ 0 ∧ (a : Int) = ep ∧ b = tag) := by
      unfold known
      rw [Int.toNat_natCast, ha, hb]
      simp only [decide_eq_decide]
      omega
    have HK := Aside.mk hk
    clear hk hm ha hb hab
    by_cases h0 : tag = 0
    · subst h0
      go_enter Try.func58, Try.ntmps58
      go_wp2_with fail
      refine (HO.out _).mono ?_
      rintro e' w1 ⟨rfl, rfl⟩
      go_wp2_with fail
      go_ret
      exact ⟨by rw [HK.out]; simp, rfl⟩
    · have hn : ((tag : Int) != 0) = true := by rw [bne_iff_ne]; omega
      have HN := Aside.mk h0
      clear h0
      by_cases he : (a : Int) = ep
      · subst he
        by_cases ht : b = tag
        · subst ht
          go_enter Try.func58, Try.ntmps58
          go_wp2_with fail
          refine (HO.out _).mono ?_
          rintro e' w1 ⟨rfl, rfl⟩
          go_wp2_with fail
          go_ret
          exact ⟨by rw [HK.out]; simp [HN.out], rfl⟩
        · have hf : ((b : Int) == tag) = false := by rw [beq_eq_false_iff_ne]; omega
          have HT := Aside.mk ht
          clear ht
          go_enter Try.func58, Try.ntmps58
          go_wp2_with fail
          refine (HO.out _).mono ?_
          rintro e' w1 ⟨rfl, rfl⟩
          go_wp2_with fail
          go_ret
          exact ⟨by rw [HK.out]; simp [HT.out], rfl⟩
      · have hf : ((a : Int) == ep) = false := by rw [beq_eq_false_iff_ne]; omega
        have HT := Aside.mk he
        clear he
        go_enter Try.func58, Try.ntmps58
        go_wp2_with fail
        refine (HO.out _).mono ?_
        rintro e' w1 ⟨rfl, rfl⟩
        go_wp2_with fail
        go_ret
        exact ⟨by rw [HK.out]; simp [HT.out], rfl⟩

theorem mRevoke_nil (o : Int) (w : World) : Calls Try.prog 54 #[.pointer none, .int .i64 o] w fun e w' => e = .returned (.int .i64 17) ∧ w = w' := by
  go_enter Try.func54, Try.ntmps54
  go_wp2
  go_ret
  exact ⟨rfl, rfl⟩
theorem mRevoke_no (R : Nat) (o : Int) (ho : o < 0 ∨ 8 < o) (w : World) : Calls Try.prog 54 #[.pointer (some ⟨R, 0, none⟩), .int .i64 o] w fun e w' => e = .returned (.int .i64 1) ∧ w = w' := by
  have HO := Aside.mk ho
  clear ho
  go_enter Try.func54, Try.ntmps54
  go_wp2_with fail
  refine (owns_no o HO.out _).mono ?_
  rintro e' w1 ⟨rfl, rfl⟩
  go_wp2_with fail
  go_ret
  exact ⟨rfl, rfl⟩
theorem mRevoke_none (R : Nat) (T : Nat → Nat × Nat × Nat) (o : Nat) (ho : o < 9) (w : World) (h : Mac w R T) (hz : (T o).2 = (0, 0)) :
    Calls Try.prog 54 #[.pointer (some ⟨R, 0, none⟩), .int .i64 o] w fun e w' => e = .returned (.int .i64 12) ∧ w = w' := by
  obtain ⟨cs, hm⟩ := h
  have hc : w.cell? ⟨R, 9 + o * 2, none⟩ = some (.int .i64 0) := by rw [hm.blk.cell, hm.be o ho, hz]; rfl
  have hd : w.cell? ⟨R, 9 + o * 2 + 1, none⟩ = some (.int .u64 0) := by rw [hm.blk.cell, hm.bt o ho, hz]; rfl
  clear hm hz
  go_enter Try.func54, Try.ntmps54
  go_wp2_with fail
  refine (owns_yes o ho _).mono ?_
  rintro e' w1 ⟨rfl, rfl⟩
  go_wp2_with fail
  go_ret
  exact ⟨rfl, rfl⟩

def upd (T : Nat → Nat × Nat × Nat) (o : Nat) (x : Nat × Nat × Nat) : Nat → Nat × Nat × Nat := fun k => if k = o then x else T k
theorem upd_eq (T : Nat → Nat × Nat × Nat) (o : Nat) (x : Nat × Nat × Nat) : upd T o x o = x := if_pos rfl
theorem upd_ne (T : Nat → Nat × Nat × Nat) {o k : Nat} (x : Nat × Nat × Nat) (h : k ≠ o) : upd T o x k = T k := if_neg h

theorem MacAt.updated {w w' : World} {R : Nat} {T : Nat → Nat × Nat × Nat} {cs : Array Value} {o e a b : Nat} (h : MacAt w R T cs) (ho : o < 9)
    (hw : Whole w' R 97 (((cs.setIfInBounds o (.int .i64 e)).setIfInBounds (9 + o * 2) (.int .i64 a)).setIfInBounds (9 + o * 2 + 1) (.int .u64 b))) : Mac w' R (upd T o (e, a, b)) := by
  obtain ⟨hb, hs, h1, h2, h3⟩ := h
  refine ⟨_, hw, by simp [hs], ?_, ?_, ?_⟩
  · intro k hk
    rw [set_at _ _ _ _ (by simp; omega), if_neg (by omega), set_at _ _ _ _ (by simp; omega), if_neg (by omega), set_at _ _ _ _ (by omega)]
    by_cases he : k = o
    · subst he; rw [if_pos rfl, upd_eq]
    · rw [if_neg (by omega), upd_ne _ _ he, h1 k hk]
  · intro k hk
    rw [set_at _ _ _ _ (by simp; omega), if_neg (by omega), set_at _ _ _ _ (by simp; omega)]
    by_cases he : k = o
    · subst he; rw [if_pos rfl, upd_eq]
    · rw [if_neg (by omega), set_at _ _ _ _ (by omega), if_neg (by omega), upd_ne _ _ he, h2 k hk]
  · intro k hk
    rw [set_at _ _ _ _ (by simp; omega)]
    by_cases he : k = o
    · subst he; rw [if_pos rfl, upd_eq]
    · rw [if_neg (by omega), set_at _ _ _ _ (by simp; omega), if_neg (by omega), set_at _ _ _ _ (by omega), if_neg (by omega), upd_ne _ _ he, h3 k hk]

theorem MacAt.updated2 {w w' : World} {R : Nat} {T : Nat → Nat × Nat × Nat} {cs : Array Value} {o a b : Nat} (h : MacAt w R T cs) (ho : o < 9)
    (hw : Whole w' R 97 ((cs.setIfInBounds (9 + o * 2) (.int .i64 a)).setIfInBounds (9 + o * 2 + 1) (.int .u64 b))) : Mac w' R (upd T o ((T o).1, a, b)) := by
  have he : cs.setIfInBounds o (.int .i64 ((T o).1 : Nat)) = cs := by
    apply Array.ext_getElem?
    intro i
    have := h.size
    rw [set_at _ _ _ _ (by omega)]
    by_cases hi : o = i
    · subst hi; rw [if_pos rfl, h.ep o ho]
    · rw [if_neg hi]
  refine h.updated (e := (T o).1) ho ?_
  rw [he]
  exact hw

set_option maxHeartbeats 1000000 in
theorem mRevoke_yes (R : Nat) (T : Nat → Nat × Nat × Nat) (o : Nat) (ho : o < 9) (w : World) (h : Mac w R T) (hz : (T o).2.2 ≠ 0) :
    Calls Try.prog 54 #[.pointer (some ⟨R, 0, none⟩), .int .i64 o] w fun e w' => e = .returned (.int .i64 0) ∧ Mac w' R (upd T o ((T o).1, 0, 0)) ∧ Keeps [R] w w' := by
  obtain ⟨cs, hm⟩ := h
  obtain ⟨a, b, hab⟩ : ∃ a b, (T o).2 = (a, b) := ⟨_, _, rfl⟩
  have ha : (T o).2.1 = a := by rw [hab]
  have hb : (T o).2.2 = b := by rw [hab]
  have hc : w.cell? ⟨R, 9 + o * 2, none⟩ = some (.int .i64 (a : Nat)) := ha ▸ (hm.blk.cell _).trans (hm.be o ho)
  have hd : w.cell? ⟨R, 9 + o * 2 + 1, none⟩ = some (.int .u64 (b : Nat)) := hb ▸ (hm.blk.cell _).trans (hm.bt o ho)
  have hf : ((b : Int) == 0) = false := by rw [beq_eq_false_iff_ne]; omega
  have hfz : ∀ j, w.frozen? ⟨R, j, none⟩ = false := hm.blk.frozen
  have HM := Aside.mk hm
  clear hm hz ha hb hab
  go_enter Try.func54, Try.ntmps54
  go_wp2_with fail
  refine (owns_yes o ho _).mono ?_
  rintro e' w1 ⟨rfl, rfl⟩
  go_wp2_with fail
  go_ret
  refine ⟨rfl, HM.out.updated2 ho ?_, ((Keeps.refl _ _).setCell (.inl (by simp)) _).setCell (.inl (by simp)) _⟩
  exact (HM.out.blk.set_ _ _).set_ _ _

theorem mIssue_nil (o : Int) (D : Value) (w : World) : Calls Try.prog 52 #[.pointer none, .int .i64 o, D] w fun e w' => e = .returned (.tuple #[.int .i64 0, .int .u64 0, .int .i64 17]) ∧ w = w' := by
  go_enter Try.func52, Try.ntmps52
  go_wp2
  go_ret3
  exact ⟨rfl, rfl⟩
theorem mIssue_no (R : Nat) (o : Int) (ho : o < 0 ∨ 8 < o) (D : Value) (w : World) : Calls Try.prog 52 #[.pointer (some ⟨R, 0, none⟩), .int .i64 o, D] w fun e w' => e = .returned (.tuple #[.int .i64 0, .int .u64 0, .int .i64 1]) ∧ w = w' := by
  have HO := Aside.mk ho
  clear ho
  go_enter Try.func52, Try.ntmps52
  go_wp2_with fail
  refine (owns_no o HO.out _).mono ?_
  rintro e' w1 ⟨rfl, rfl⟩
  go_wp2_with fail
  go_ret3
  exact ⟨rfl, rfl⟩
theorem mIssue_none (R : Nat) (o : Nat) (ho : o < 9) (D : Nat) (w : World) (hd : Dice w D []) :
    Calls Try.prog 52 #[.pointer (some ⟨R, 0, none⟩), .int .i64 o, .pointer (some ⟨D, 0, none⟩)] w fun e w' => e = .returned (.tuple #[.int .i64 0, .int .u64 0, .int .i64 17]) ∧ w = w' := by
  have HD := Aside.mk hd
  clear hd
  go_enter Try.func52, Try.ntmps52
  go_wp2_with fail
  refine (owns_yes o ho _).mono ?_
  rintro e' w1 ⟨rfl, rfl⟩
  go_wp2_with fail
  refine (dTake_no D _ HD.out).mono ?_
  rintro e' w1 ⟨rfl, rfl⟩
  go_wp2_with fail
  go_ret3
  exact ⟨rfl, rfl⟩

def tagOf (x e o : Nat) : Nat := max (mixN x (256 * e + o)) 1
theorem max_one (ats : Array TypeId) (ty : TypeId) (k k' : IntKind) (a : Nat) : Builtin.max_ ats ty #[.int k (a : Nat), .int k' 1] = pure (.int k ((max a 1 : Nat) : Int)) := by
  simp only [Builtin.max_, List.foldlM_cons, List.foldlM_nil, Builtin.max2, gt_iff_lt]
  by_cases h : (a : Int) < 1
  · simp [h, show max a 1 = 1 by omega]
  · simp [h, show max a 1 = a by omega]

attribute [local go_sem ↓ high] max_one in
set_option maxRecDepth 4000 in
set_option maxHeartbeats 2000000 in
theorem mIssue_yes (R : Nat) (T : Nat → Nat × Nat × Nat) (o : Nat) (ho : o < 9) (D x : Nat) (q : List Nat) (hx : x < 18446744073709551616) (hDR : D ≠ R) (w : World) (h : Mac w R T) (hd : Dice w D (x :: q)) (hT : (T o).1 < 1000000) :
    Calls Try.prog 52 #[.pointer (some ⟨R, 0, none⟩), .int .i64 o, .pointer (some ⟨D, 0, none⟩)] w fun e w' =>
      e = .returned (.tuple #[.int .i64 (((T o).1 + 1 : Nat) : Int), .int .u64 (tagOf x ((T o).1 + 1) o : Nat), .int .i64 0]) ∧
      Mac w' R (upd T o ((T o).1 + 1, (T o).1 + 1, tagOf x ((T o).1 + 1) o)) ∧ Dice w' D q ∧ Keeps [R, D] w w' := by
  have HD := Aside.mk hd
  have HM := Aside.mk h
  clear hd h
  obtain ⟨n, hn⟩ : ∃ n, n = (T o).1 := ⟨_, rfl⟩
  have hn2 : n < 1000000 := by omega
  have HT := Aside.mk hn
  clear hn hT
  have HMX := Aside.mk (fun w => mix_calls x (256 * (n + 1) + o) hx (by omega) w)
  rw [show ((256 * (n + 1) + o : Nat) : Int) = ((n : Int) + 1) * 256 + o by omega] at HMX
  obtain ⟨t, ht⟩ : ∃ t, t = mixN x (256 * (n + 1) + o) := ⟨_, rfl⟩
  rw [← ht] at HMX
  have HTG := Aside.mk ht
  clear ht
  go_enter Try.func52, Try.ntmps52
  go_wp2_with fail
  refine (owns_yes o ho _).mono ?_
  rintro e' w1 ⟨rfl, rfl⟩
  go_wp2_with fail
  refine (dTake_yes D _ _ _ HD.out).mono ?_
  rintro e' w1 ⟨rfl, hd1, k1⟩
  obtain ⟨cs, hm⟩ := HM.out.keeps k1 (by simp; omega)
  have hc : w1.cell? ⟨R, o, none⟩ = some (.int .i64 (n : Nat)) := by rw [hm.blk.cell, hm.ep o ho, ← HT.out]
  have hfz : ∀ j, w1.frozen? ⟨R, j, none⟩ = false := hm.blk.frozen
  have hb1 : (w1.setCell ⟨R, o, none⟩ (.int .i64 ((n : Int) + 1))).cell? ⟨R, 9 + o * 2, none⟩ = some (.int .i64 ((T o).2.1 : Nat)) := by
    rw [World.cell?_setCell_other _ _ _ _ (by simp <;> omega), hm.blk.cell, hm.be o ho]
  have hb2 : (w1.setCell ⟨R, o, none⟩ (.int .i64 ((n : Int) + 1))).cell? ⟨R, 9 + o * 2 + 1, none⟩ = some (.int .u64 ((T o).2.2 : Nat)) := by
    rw [World.cell?_setCell_other _ _ _ _ (by simp <;> omega), hm.blk.cell, hm.bt o ho]
  have HD1 := Aside.mk hd1
  have HK1 := Aside.mk k1
  have HM1 := Aside.mk hm
  clear hd1 k1 hm
  go_wp2_with fail
  go_region
  go_wp2_with fail
  refine (HMX.out _).mono ?_
  rintro e' w2 ⟨rfl, rfl⟩
  go_wp2_with fail
  refine bodyPost_ret (v := .tuple #[.int .i64 ((n : Int) + 1), .int .u64 ((max t 1 : Nat) : Int), .int .i64 0]) (by simp [results, Try.results52, go_sem]) rfl ?_
  have hm := HM1.out
  have hk := HK1.out
  have e1 := HT.out
  have e2 : tagOf x ((T o).1 + 1) o = max t 1 := by rw [tagOf, ← e1, HTG.out]
  rw [e2, ← e1]
  refine ⟨by simp, hm.updated ho ?_, HD1.out.keeps (L := [R]) ?_ (by simp; omega), ?_⟩
  · have := (((hm.blk.set_ o (.int .i64 ((n + 1 : Nat) : Int))).set_ (9 + o * 2) (.int .i64 ((n + 1 : Nat) : Int))).set_ (9 + o * 2 + 1) (.int .u64 ((max t 1 : Nat) : Int))).drew
    simpa using this
  · exact ((((Keeps.refl _ _).setCell (.inl (by simp)) _).setCell (.inl (by simp)) _).setCell (.inl (by simp)) _).drew
  · exact ((((hk.more (by simp)).setCell (.inl (by simp)) _).setCell (.inl (by simp)) _).setCell (.inl (by simp)) _).drew
end Go.Proofs.Ythcjcgagbpfkpaa

/- HelloBack: what is put is taken, if it is not too great; what was taken is put so. -/
import Derived.Test.YthcjcgagbpfkpaaHelloB
import Derived.Test.YthcjcgagbpfkpaaBack
namespace Go.Proofs.Ythcjcgagbpfkpaa
set_option linter.unusedSimpArgs false
set_option linter.unusedVariables false
open Go.RowKit

theorem helloG_put (M : Int) (o p tag : Nat) (ho : o < 18446744073709551616) (hp : p < 18446744073709551616) (ht : tag < 18446744073709551616) :
    (o ≤ M.toNat ∧ p ≤ M.toNat → helloG M (helloText o p tag) = ((o, p, tag), 0)) ∧ (¬ (o ≤ M.toNat ∧ p ≤ M.toNat) → helloG M (helloText o p tag) = ((0, 0, 0), 1)) := by
  obtain ⟨b, hb⟩ : ∃ b, b = helloText o p tag := ⟨_, rfl⟩
  rw [← hb]
  have e0 : b = txt (vput o) ++ (txt (vput p) ++ txt (vput tag)) := by rw [hb, helloText, ba_append_assoc]
  have e0' : b.extract 0 b.size = txt (vput o) ++ (txt (vput p) ++ txt (vput tag)) := by rw [extract_all]; exact e0
  obtain ⟨e1, l1⟩ := rest_at_put (Nat.zero_le _) e0'
  rw [Nat.zero_add] at e1 l1
  obtain ⟨e2, l2⟩ := rest_at_put l1 e1
  by_cases h1 : o ≤ M.toNat
  · have i1 : intT b M = (o, (vput o).length, 0) := by
      have := intT_put (most := M) ho h1 (txt (vput p) ++ txt (vput tag))
      rwa [← e0] at this
    by_cases h2 : p ≤ M.toNat
    · have i2 : intT (b.extract (vput o).length b.size) M = (p, (vput p).length, 0) := by rw [e1]; exact intT_put hp h2 _
      have i3 : vtake (b.extract ((vput o).length + (vput p).length) b.size) = (tag, (vput tag).length, 0) := by
        rw [e2, ← append_nil_txt (txt (vput tag))]; exact vtake_put ht _
      have hz : (vput o).length + (vput p).length + (vput tag).length = b.size := by
        rw [e0, ByteArray.size_append, ByteArray.size_append, txt_size, txt_size, txt_size]; omega
      exact ⟨fun _ => helloG_4 i1 i2 i3 hz, fun h => absurd ⟨h1, h2⟩ h⟩
    · have i2 : intT (b.extract (vput o).length b.size) M = (0, 0, 3) := by rw [e1]; exact intT_big hp (by omega) _
      exact ⟨fun h => absurd h.2 h2, fun _ => helloG_2 i1 i2 (by decide)⟩
  · have i1 : intT b M = (0, 0, 3) := by
      have := intT_big (most := M) ho (by omega) (txt (vput p) ++ txt (vput tag))
      rwa [← e0] at this
    exact ⟨fun h => absurd h.1 h1, fun _ => helloG_1 i1 (by decide)⟩

theorem helloG_back (M : Int) {b : ByteArray} {a c n : Nat} (h : helloG M b = ((a, c, n), 0)) : helloText a c n = b ∧ a ≤ M.toNat ∧ c ≤ M.toNat ∧ n < 18446744073709551616 := by
  obtain ⟨x, i, e, h1⟩ := trip_ex (intT b M)
  by_cases he : e = 0
  · subst he
    obtain ⟨y, k, f, h2⟩ := trip_ex (intT (b.extract i b.size) M)
    by_cases hf : f = 0
    · subst hf
      obtain ⟨z, j, g, h3⟩ := trip_ex (vtake (b.extract (i + k) b.size))
      by_cases hg : g = 0 ∧ i + k + j = b.size
      · obtain ⟨rfl, hs⟩ := hg
        rw [helloG_4 h1 h2 h3 hs] at h
        simp only [Prod.mk.injEq, and_true] at h
        obtain ⟨rfl, rfl, rfl⟩ := h
        obtain ⟨v1, m1⟩ := intT_back h1
        obtain ⟨v2, m2⟩ := intT_back h2
        have v1' : vtake (b.extract 0 b.size) = (x, i, 0) := by rw [extract_all]; exact v1
        obtain ⟨a1, l1, _⟩ := vtake_at (Nat.zero_le _) v1'
        rw [Nat.zero_add] at a1 l1
        obtain ⟨a2, l2, _⟩ := vtake_at l1 v2
        obtain ⟨a3, l3, _⟩ := vtake_at l2 h3
        have hn := (vtake_ok (b.extract (i + k) b.size)).n
        rw [h3] at hn
        refine ⟨?_, m1, m2, hn⟩
        rw [hs, extract_end, append_nil_txt] at a3
        rw [helloText, ba_append_assoc, ← a3, ← a2, ← a1, extract_all]
      · rw [helloG_3 h1 h2 h3 (by omega)] at h
        simp at h
    · rw [helloG_2 h1 h2 hf] at h
      simp at h
  · rw [helloG_1 h1 he] at h
    simp at h


theorem helloT_er {b : ByteArray} {x : Nat × Nat × Nat} {er : Nat} (h : helloT b = (x, er)) : er = 0 ∨ er = 1 := by
  have h' : helloG 2147483647 b = (x, er) := h
  unfold helloG at h'
  split at h'
  · simp only [Prod.mk.injEq] at h'; omega
  · split at h'
    · simp only [Prod.mk.injEq] at h'; omega
    · split at h'
      · simp only [Prod.mk.injEq] at h'; omega
      · simp only [Prod.mk.injEq] at h'; omega

set_option maxRecDepth 8000 in
set_option maxHeartbeats 4000000 in
theorem helloBack_walk (ow : Int) (_ : -9223372036854775808 ≤ ow) (ho : ow ≤ 9223372036854775807) (ep : Int) (_ : -9223372036854775808 ≤ ep) (hp : ep ≤ 9223372036854775807) (tag : Nat) (ht : tag < 18446744073709551616)
    (b : ByteArray) (hb : b.size ≤ 140737488351232) (w : World) :
    Calls Try.prog 14 #[.agg #[.int .i64 ow, .int .i64 ep, .int .u64 tag], .string b] w fun e' w' => e' = .returned (.bool true) ∧ Keeps [] w w' := by
  have hb : b.size ≤ 1152921504606846976 := by omega
  obtain ⟨⟨a, c, n⟩, er, hT⟩ : ∃ x er, helloT b = (x, er) := ⟨_, _, rfl⟩
  have C6 := Aside.mk (fun w => helloTake_calls b hb hT w)
  have her := helloT_er hT
  have hk0 := (Keeps.refl [] w).alloc (.cells #[.int .i64 ow, .int .i64 ep, .int .u64 tag] 100)
  have hput : er = 0 → ∀ w, Calls Try.prog 63 #[.agg #[.int .i64 a, .int .i64 c, .int .u64 n]] w fun e w' => e = .returned (.tuple #[.string b, .int .i64 0]) ∧ Keeps [] w w' := by
    intro h0 w
    subst h0
    obtain ⟨h1, h2, h3, h4⟩ := helloG_back 2147483647 hT
    rw [← h1]
    have hM : (2147483647 : Int).toNat = 2147483647 := rfl
    rw [hM] at h2 h3
    exact helloPut_calls a c n (by omega) (by omega) h4 w
  clear hT
  by_cases hneg : ow < 0 ∨ ep < 0
  · have C1 := Aside.mk (fun w => helloPut_calls_no ow ep tag hneg w)
    clear hneg
    rcases her with rfl | rfl
    · have C7 := Aside.mk (hput rfl)
      clear hput
      go_enter Try.func14, Try.ntmps14
      go_wp2_with fail
      refine (C1.out _).mono ?_
      rintro e' w1 ⟨rfl, hk1⟩
      go_wp2_with fail
      refine (C6.out _).mono ?_
      rintro e' w6 ⟨rfl, hk6⟩
      go_wp2_with fail
      refine (C7.out _).mono ?_
      rintro e' w7 ⟨rfl, hk7⟩
      go_wp2_with fail
      refine (awake22 _).mono ?_
      rintro e' w8 ⟨rfl, hk8⟩
      go_wp2_with fail
      go_ret
      exact ⟨rfl, ((((hk0.nil_trans hk1).nil_trans hk6).alloc _).nil_trans hk7).nil_trans hk8⟩
    · clear hput
      go_enter Try.func14, Try.ntmps14
      go_wp2_with fail
      refine (C1.out _).mono ?_
      rintro e' w1 ⟨rfl, hk1⟩
      go_wp2_with fail
      refine (C6.out _).mono ?_
      rintro e' w6 ⟨rfl, hk6⟩
      go_wp2_with fail
      refine (awake22 _).mono ?_
      rintro e' w8 ⟨rfl, hk8⟩
      go_wp2_with fail
      go_ret
      exact ⟨rfl, (((hk0.nil_trans hk1).nil_trans hk6).alloc _).nil_trans hk8⟩
  · obtain ⟨o, rfl⟩ := Int.eq_ofNat_of_zero_le (show 0 ≤ ow by omega)
    obtain ⟨p, rfl⟩ := Int.eq_ofNat_of_zero_le (show 0 ≤ ep by omega)
    clear hneg
    have C1 := Aside.mk (fun w => helloPut_calls o p tag (by omega) (by omega) ht w)
    have hsz : (helloText o p tag).size ≤ 1152921504606846976 := by
      have s1 := num_size (n := o) (by omega)
      have s2 := num_size (n := p) (by omega)
      have s3 := num_size (n := tag) ht
      rw [helloText, ByteArray.size_append, ByteArray.size_append]
      omega
    obtain ⟨hy, hn⟩ := helloG_put 2147483647 o p tag (by omega) (by omega) ht
    rw [show (2147483647 : Int).toNat = 2147483647 from rfl] at hy hn
    generalize hS : helloText o p tag = S at C1 hsz hy hn
    have hw0 := Whole.new w 100 #[.int .i64 o, .int .i64 p, .int .u64 tag]
    by_cases hsm : o ≤ 2147483647 ∧ p ≤ 2147483647
    · obtain ⟨ho1, hp1⟩ := hsm
      have C2 := Aside.mk (fun w => helloTake_calls S hsz (hy ⟨ho1, hp1⟩) w)
      clear hy hn hS
      rcases her with rfl | rfl
      · have C7 := Aside.mk (hput rfl)
        clear hput
        go_enter Try.func14, Try.ntmps14
        go_wp2_with fail
        refine (C1.out _).mono ?_
        rintro e' w1 ⟨rfl, hk1⟩
        go_wp2_with fail
        refine (C2.out _).mono ?_
        rintro e' w2 ⟨rfl, hk2⟩
        have hW := (hk2.whole (hk1.whole hw0 (by simp)) (by simp)).alloc (.cells #[.int .i64 o, .int .i64 p, .int .u64 tag] 102)
        have f3 : (w2.alloc (.cells #[.int .i64 o, .int .i64 p, .int .u64 tag] 102)).cell? ⟨w.heap.size, 0, none⟩ = some (.int .i64 o) := hW.cell 0
        have f4 : (w2.alloc (.cells #[.int .i64 o, .int .i64 p, .int .u64 tag] 102)).cell? ⟨w.heap.size, 1, none⟩ = some (.int .i64 p) := hW.cell 1
        have f5 : (w2.alloc (.cells #[.int .i64 o, .int .i64 p, .int .u64 tag] 102)).cell? ⟨w.heap.size, 2, none⟩ = some (.int .u64 tag) := hW.cell 2
        have hV := Whole.new w2 102 #[.int .i64 o, .int .i64 p, .int .u64 tag]
        have f0 : (w2.alloc (.cells #[.int .i64 o, .int .i64 p, .int .u64 tag] 102)).cell? ⟨w2.heap.size, 0, none⟩ = some (.int .i64 o) := hV.cell 0
        have f1 : (w2.alloc (.cells #[.int .i64 o, .int .i64 p, .int .u64 tag] 102)).cell? ⟨w2.heap.size, 1, none⟩ = some (.int .i64 p) := hV.cell 1
        have f2 : (w2.alloc (.cells #[.int .i64 o, .int .i64 p, .int .u64 tag] 102)).cell? ⟨w2.heap.size, 2, none⟩ = some (.int .u64 tag) := hV.cell 2
        clear hV
        clear hW
        go_wp2_with fail
        refine (C6.out _).mono ?_
        rintro e' w6 ⟨rfl, hk6⟩
        clear f0 f1 f2 f3 f4 f5
        go_wp2_with fail
        refine (C7.out _).mono ?_
        rintro e' w7 ⟨rfl, hk7⟩
        go_wp2_with fail
        refine (awake22 _).mono ?_
        rintro e' w8 ⟨rfl, hk8⟩
        go_wp2_with fail
        go_ret
        exact ⟨rfl, ((((((hk0.nil_trans hk1).nil_trans hk2).alloc _).nil_trans hk6).alloc _).nil_trans hk7).nil_trans hk8⟩
      · clear hput
        go_enter Try.func14, Try.ntmps14
        go_wp2_with fail
        refine (C1.out _).mono ?_
        rintro e' w1 ⟨rfl, hk1⟩
        go_wp2_with fail
        refine (C2.out _).mono ?_
        rintro e' w2 ⟨rfl, hk2⟩
        have hW := (hk2.whole (hk1.whole hw0 (by simp)) (by simp)).alloc (.cells #[.int .i64 o, .int .i64 p, .int .u64 tag] 102)
        have f3 : (w2.alloc (.cells #[.int .i64 o, .int .i64 p, .int .u64 tag] 102)).cell? ⟨w.heap.size, 0, none⟩ = some (.int .i64 o) := hW.cell 0
        have f4 : (w2.alloc (.cells #[.int .i64 o, .int .i64 p, .int .u64 tag] 102)).cell? ⟨w.heap.size, 1, none⟩ = some (.int .i64 p) := hW.cell 1
        have f5 : (w2.alloc (.cells #[.int .i64 o, .int .i64 p, .int .u64 tag] 102)).cell? ⟨w.heap.size, 2, none⟩ = some (.int .u64 tag) := hW.cell 2
        have hV := Whole.new w2 102 #[.int .i64 o, .int .i64 p, .int .u64 tag]
        have f0 : (w2.alloc (.cells #[.int .i64 o, .int .i64 p, .int .u64 tag] 102)).cell? ⟨w2.heap.size, 0, none⟩ = some (.int .i64 o) := hV.cell 0
        have f1 : (w2.alloc (.cells #[.int .i64 o, .int .i64 p, .int .u64 tag] 102)).cell? ⟨w2.heap.size, 1, none⟩ = some (.int .i64 p) := hV.cell 1
        have f2 : (w2.alloc (.cells #[.int .i64 o, .int .i64 p, .int .u64 tag] 102)).cell? ⟨w2.heap.size, 2, none⟩ = some (.int .u64 tag) := hV.cell 2
        clear hV
        clear hW
        go_wp2_with fail
        refine (C6.out _).mono ?_
        rintro e' w6 ⟨rfl, hk6⟩
        clear f0 f1 f2 f3 f4 f5
        go_wp2_with fail
        refine (awake22 _).mono ?_
        rintro e' w8 ⟨rfl, hk8⟩
        go_wp2_with fail
        go_ret
        exact ⟨rfl, (((((hk0.nil_trans hk1).nil_trans hk2).alloc _).nil_trans hk6).alloc _).nil_trans hk8⟩
    · have C2 := Aside.mk (fun w => helloTake_calls S hsz (hn hsm) w)
      clear hy hn hS
      have hbig : (¬ (o : Int) ≤ 2147483647) ∨ ((o : Int) ≤ 2147483647 ∧ ¬ (p : Int) ≤ 2147483647) := by omega
      clear hsm
      rcases hbig with hbig | ⟨hb1, hb2⟩
      all_goals
        rcases her with rfl | rfl
        · have C7 := Aside.mk (hput rfl)
          clear hput
          go_enter Try.func14, Try.ntmps14
          go_wp2_with fail
          refine (C1.out _).mono ?_
          rintro e' w1 ⟨rfl, hk1⟩
          go_wp2_with fail
          refine (C2.out _).mono ?_
          rintro e' w2 ⟨rfl, hk2⟩
          have hW := (hk2.whole (hk1.whole hw0 (by simp)) (by simp)).alloc (.cells #[.int .i64 0, .int .i64 0, .int .u64 0] 102)
          have f3 : (w2.alloc (.cells #[.int .i64 0, .int .i64 0, .int .u64 0] 102)).cell? ⟨w.heap.size, 0, none⟩ = some (.int .i64 o) := hW.cell 0
          have f4 : (w2.alloc (.cells #[.int .i64 0, .int .i64 0, .int .u64 0] 102)).cell? ⟨w.heap.size, 1, none⟩ = some (.int .i64 p) := hW.cell 1
          have f5 : (w2.alloc (.cells #[.int .i64 0, .int .i64 0, .int .u64 0] 102)).cell? ⟨w.heap.size, 2, none⟩ = some (.int .u64 tag) := hW.cell 2
          clear hW
          go_wp2_with fail
          refine (C6.out _).mono ?_
          rintro e' w6 ⟨rfl, hk6⟩
          clear f3 f4 f5
          go_wp2_with fail
          refine (C7.out _).mono ?_
          rintro e' w7 ⟨rfl, hk7⟩
          go_wp2_with fail
          refine (awake22 _).mono ?_
          rintro e' w8 ⟨rfl, hk8⟩
          go_wp2_with fail
          go_ret
          exact ⟨rfl, ((((((hk0.nil_trans hk1).nil_trans hk2).alloc _).nil_trans hk6).alloc _).nil_trans hk7).nil_trans hk8⟩
        · clear hput
          go_enter Try.func14, Try.ntmps14
          go_wp2_with fail
          refine (C1.out _).mono ?_
          rintro e' w1 ⟨rfl, hk1⟩
          go_wp2_with fail
          refine (C2.out _).mono ?_
          rintro e' w2 ⟨rfl, hk2⟩
          have hW := (hk2.whole (hk1.whole hw0 (by simp)) (by simp)).alloc (.cells #[.int .i64 0, .int .i64 0, .int .u64 0] 102)
          have f3 : (w2.alloc (.cells #[.int .i64 0, .int .i64 0, .int .u64 0] 102)).cell? ⟨w.heap.size, 0, none⟩ = some (.int .i64 o) := hW.cell 0
          have f4 : (w2.alloc (.cells #[.int .i64 0, .int .i64 0, .int .u64 0] 102)).cell? ⟨w.heap.size, 1, none⟩ = some (.int .i64 p) := hW.cell 1
          have f5 : (w2.alloc (.cells #[.int .i64 0, .int .i64 0, .int .u64 0] 102)).cell? ⟨w.heap.size, 2, none⟩ = some (.int .u64 tag) := hW.cell 2
          clear hW
          go_wp2_with fail
          refine (C6.out _).mono ?_
          rintro e' w6 ⟨rfl, hk6⟩
          clear f3 f4 f5
          go_wp2_with fail
          refine (awake22 _).mono ?_
          rintro e' w8 ⟨rfl, hk8⟩
          go_wp2_with fail
          go_ret
          exact ⟨rfl, (((((hk0.nil_trans hk1).nil_trans hk2).alloc _).nil_trans hk6).alloc _).nil_trans hk8⟩

end Go.Proofs.Ythcjcgagbpfkpaa

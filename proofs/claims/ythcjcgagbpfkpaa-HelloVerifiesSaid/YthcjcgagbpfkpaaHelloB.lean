/- Hellos: the document's Take, and Put of both. -/
import Derived.Test.YthcjcgagbpfkpaaHello
namespace Go.Proofs.Ythcjcgagbpfkpaa
set_option linter.unusedSimpArgs false
set_option linter.unusedVariables false
open Go.RowKit
attribute [local go_sem ↓] Go.wp_at_zero Go.wp_at_succ

set_option maxRecDepth 4000 in
set_option maxHeartbeats 2000000 in
theorem rHelloTake_calls (b : ByteArray) (hb : b.size ≤ 1152921504606846976) {a c n er : Nat} (hT : helloT b = ((a, c, n), er)) (w : World) :
    Calls Try.prog 66 #[.string b] w fun e' w' => e' = .returned (.tuple #[.agg #[.int .i64 a, .int .i64 c, .int .u64 n], .int .i64 er]) ∧ Keeps [] w w' := by
  obtain ⟨x, i, e, h1⟩ := trip_ex (intT b 2147483647)
  have i1 := intT_ok b 2147483647
  have C1 := Aside.mk (fun w => rInt_calls b 2147483647 hb (by omega) w)
  rw [h1] at i1 C1
  have hi : i ≤ b.size := i1.k
  have he3 : e ≤ 3 := i1.e
  have hx : x ≤ 2147483647 := i1.n
  dsimp only at C1
  clear i1
  by_cases he : e = 0
  · rw [he] at h1 C1
    obtain ⟨y, k, f, h2⟩ := trip_ex (intT (b.extract i b.size) 2147483647)
    have hs2 : (b.extract i b.size).size = b.size - i := by rw [ByteArray.size_extract]; omega
    have i2 := intT_ok (b.extract i b.size) 2147483647
    have C2 := Aside.mk (fun w => rInt_calls (b.extract i b.size) 2147483647 (by omega) (by omega) w)
    rw [h2] at i2 C2
    have hk : i + k ≤ b.size := by have := i2.k; dsimp only at this; omega
    have hf3 : f ≤ 3 := i2.e
    have hy : y ≤ 2147483647 := i2.n
    dsimp only at C2
    clear i2 hs2
    by_cases hf : f = 0
    · rw [hf] at h2 C2
      obtain ⟨z, j, g, h3⟩ := trip_ex (vtake (b.extract (i + k) b.size))
      have hs3 : (b.extract (i + k) b.size).size = b.size - (i + k) := by rw [ByteArray.size_extract]; omega
      have i3 := vtake_ok (b.extract (i + k) b.size)
      have C3 := Aside.mk (fun w => rTake_calls (b.extract (i + k) b.size) (by omega) w)
      rw [h3] at i3 C3
      have hj : i + k + j ≤ b.size := by have := i3.k; dsimp only at this; omega
      have hg3 : g ≤ 2 := i3.e
      dsimp only at C3
      clear i3 hs3
      by_cases hg : g = 0
      · rw [hg] at h3 C3
        by_cases hs : i + k + j = b.size
        · have hE := helloG_4 h1 h2 h3 hs
          rw [show helloG 2147483647 b = helloT b from rfl, hT] at hE
          simp only [Prod.mk.injEq] at hE
          obtain ⟨⟨rfl, rfl, rfl⟩, rfl⟩ := hE
          have q1 : ((i : Int) + (k : Int) + (j : Int) != (b.size : Int)) = false := by rw [bne_eq_false_iff_eq]; omega
          clear hT h1 h2 h3 hs he hf hg
          go_enter Try.func66, Try.ntmps66
          go_wp2_with fail
          refine (C1.out _).mono ?_
          rintro e' w1 ⟨rfl, rfl⟩
          go_wp2_with fail
          refine (C2.out _).mono ?_
          rintro e' w1 ⟨rfl, rfl⟩
          go_wp2_with fail
          refine (C3.out _).mono ?_
          rintro e' w1 ⟨rfl, rfl⟩
          go_wp2_with fail
          refine bodyPost_ret (v := .tuple #[.agg #[.int .i64 a, .int .i64 c, .int .u64 n], .int .i64 0]) (by simp [results, Try.results66, go_sem]) rfl ⟨rfl, (Keeps.refl _ _).alloc _⟩
        · have hE := helloG_3 h1 h2 h3 (.inr hs)
          rw [show helloG 2147483647 b = helloT b from rfl, hT] at hE
          simp only [Prod.mk.injEq] at hE
          obtain ⟨⟨rfl, rfl, rfl⟩, rfl⟩ := hE
          have q1 : ((i : Int) + (k : Int) + (j : Int) != (b.size : Int)) = true := by rw [bne_iff_ne]; omega
          clear hT h1 h2 h3 hs he hf hg
          go_enter Try.func66, Try.ntmps66
          go_wp2_with fail
          refine (C1.out _).mono ?_
          rintro e' w1 ⟨rfl, rfl⟩
          go_wp2_with fail
          refine (C2.out _).mono ?_
          rintro e' w1 ⟨rfl, rfl⟩
          go_wp2_with fail
          refine (C3.out _).mono ?_
          rintro e' w1 ⟨rfl, rfl⟩
          go_wp2_with fail
          refine bodyPost_ret (v := .tuple #[.agg #[.int .i64 0, .int .i64 0, .int .u64 0], .int .i64 1]) (by simp [results, Try.results66, go_sem]) rfl ⟨rfl, (Keeps.refl _ _).alloc _⟩
      · have hE := helloG_3 h1 h2 h3 (.inl hg)
        rw [show helloG 2147483647 b = helloT b from rfl, hT] at hE
        simp only [Prod.mk.injEq] at hE
        obtain ⟨⟨rfl, rfl, rfl⟩, rfl⟩ := hE
        have q0 : ((g : Int) == 0) = false := by rw [beq_eq_false_iff_ne]; omega
        have q1 : ((g : Int) != 0) = true := by rw [bne_iff_ne]; omega
        clear hT h1 h2 h3 he hf hg
        go_enter Try.func66, Try.ntmps66
        go_wp2_with fail
        refine (C1.out _).mono ?_
        rintro e' w1 ⟨rfl, rfl⟩
        go_wp2_with fail
        refine (C2.out _).mono ?_
        rintro e' w1 ⟨rfl, rfl⟩
        go_wp2_with fail
        refine (C3.out _).mono ?_
        rintro e' w1 ⟨rfl, rfl⟩
        go_wp2_with fail
        refine bodyPost_ret (v := .tuple #[.agg #[.int .i64 0, .int .i64 0, .int .u64 0], .int .i64 1]) (by simp [results, Try.results66, go_sem]) rfl ⟨rfl, (Keeps.refl _ _).alloc _⟩
    · have hE := helloG_2 h1 h2 hf
      rw [show helloG 2147483647 b = helloT b from rfl, hT] at hE
      simp only [Prod.mk.injEq] at hE
      obtain ⟨⟨rfl, rfl, rfl⟩, rfl⟩ := hE
      have q0 : ((f : Int) == 0) = false := by rw [beq_eq_false_iff_ne]; omega
      have q1 : ((f : Int) != 0) = true := by rw [bne_iff_ne]; omega
      clear hT h1 h2 he hf
      go_enter Try.func66, Try.ntmps66
      go_wp2_with fail
      refine (C1.out _).mono ?_
      rintro e' w1 ⟨rfl, rfl⟩
      go_wp2_with fail
      refine (C2.out _).mono ?_
      rintro e' w1 ⟨rfl, rfl⟩
      go_wp2_with fail
      refine bodyPost_ret (v := .tuple #[.agg #[.int .i64 0, .int .i64 0, .int .u64 0], .int .i64 1]) (by simp [results, Try.results66, go_sem]) rfl ⟨rfl, (Keeps.refl _ _).alloc _⟩
  · have hE := helloG_1 h1 he
    rw [show helloG 2147483647 b = helloT b from rfl, hT] at hE
    simp only [Prod.mk.injEq] at hE
    obtain ⟨⟨rfl, rfl, rfl⟩, rfl⟩ := hE
    have q0 : ((e : Int) == 0) = false := by rw [beq_eq_false_iff_ne]; omega
    have q1 : ((e : Int) != 0) = true := by rw [bne_iff_ne]; omega
    clear hT h1 he
    go_enter Try.func66, Try.ntmps66
    go_wp2_with fail
    refine (C1.out _).mono ?_
    rintro e' w1 ⟨rfl, rfl⟩
    go_wp2_with fail
    refine bodyPost_ret (v := .tuple #[.agg #[.int .i64 0, .int .i64 0, .int .u64 0], .int .i64 1]) (by simp [results, Try.results66, go_sem]) rfl ⟨rfl, (Keeps.refl _ _).alloc _⟩

/-- 22.1: a hello's body. -/
def helloText (o p tag : Nat) : ByteArray := txt (vput o) ++ txt (vput p) ++ txt (vput tag)

set_option maxRecDepth 4000 in
set_option maxHeartbeats 2000000 in
theorem helloPut_calls (o p tag : Nat) (ho : o ≤ 9223372036854775807) (hp : p ≤ 9223372036854775807) (ht : tag < 18446744073709551616) (w : World) :
    Calls Try.prog 63 #[.agg #[.int .i64 o, .int .i64 p, .int .u64 tag]] w fun e w' => e = .returned (.tuple #[.string (helloText o p tag), .int .i64 0]) ∧ Keeps [] w w' := by
  have s1 := num_size (n := o) (by omega)
  have s2 := num_size (n := p) (by omega)
  have s3 := num_size (n := tag) ht
  have g1 : ¬ 9223372036854775807 < (txt (vput o)).size + (txt (vput p)).size := by omega
  have g2 : ¬ 9223372036854775807 < (txt (vput o)).size + (txt (vput p)).size + (txt (vput tag)).size := by omega
  clear s1 s2 s3
  have wo : IntKind.u64.wrap (o : Int) = (o : Int) := by rw [u64_wrap_nat, Nat.mod_eq_of_lt (by omega)]
  have wp : IntKind.u64.wrap (p : Int) = (p : Int) := by rw [u64_wrap_nat, Nat.mod_eq_of_lt (by omega)]
  have d0 : decide ((o : Int) < 0) = false := decide_eq_false (by omega)
  have d1 : decide ((p : Int) < 0) = false := decide_eq_false (by omega)
  have c1 := fun w => vPut_calls o (by omega) w
  have c2 := fun w => vPut_calls p (by omega) w
  have C1 := Aside.mk c1
  have C2 := Aside.mk c2
  clear c1 c2
  go_enter Try.func63, Try.ntmps63
  go_wp2_with fail
  go_region_held3 (fun w' => w'.cell? ⟨w.heap.size, 0, none⟩ = some (.int .i64 o) ∧ w'.cell? ⟨w.heap.size, 1, none⟩ = some (.int .i64 p) ∧ w'.cell? ⟨w.heap.size, 2, none⟩ = some (.int .u64 tag) ∧ Keeps [] w w')
    (first | ((try dsimp only); go_split_ands; (repeat' apply And.intro) <;> first | (simp; done) | assumption | (exact Keeps.cell (by assumption) (by assumption) (by simp)) | (exact Keeps.nil_trans (by assumption) (by assumption)) | (exact ((Keeps.refl _ _).alloc _).drew)))
    (first
      | (go_at_call 90; (with_reducible refine (C1.out _).mono ?_); rintro e w' ⟨rfl, hk⟩)
      | (go_at_call 90; (with_reducible refine (C2.out _).mono ?_); rintro e w' ⟨rfl, hk⟩)
      | (go_at_call 90; (with_reducible refine (vPut_calls tag ht _).mono ?_); rintro e w' ⟨rfl, hk⟩))
  all_goals
    go_split_ands
    go_wp2_with fail
    go_ret2
    exact ⟨rfl, by assumption⟩

set_option maxRecDepth 4000 in
theorem helloPut_calls_no (o p : Int) (tag : Nat) (h : o < 0 ∨ p < 0) (w : World) :
    Calls Try.prog 63 #[.agg #[.int .i64 o, .int .i64 p, .int .u64 tag]] w fun e w' => e = .returned (.tuple #[.string ⟨#[]⟩, .int .i64 1]) ∧ Keeps [] w w' := by
  by_cases ho : o < 0
  · clear h
    go_enter Try.func63, Try.ntmps63
    go_wp2_with fail
    go_ret2
    exact ⟨rfl, (Keeps.refl _ _).alloc _⟩
  · have hp : p < 0 := by omega
    clear h
    go_enter Try.func63, Try.ntmps63
    go_wp2_with fail
    go_ret2
    exact ⟨rfl, (Keeps.refl _ _).alloc _⟩

set_option maxRecDepth 4000 in
set_option maxHeartbeats 2000000 in
theorem rHelloPut_calls (o p tag : Nat) (ho : o ≤ 9223372036854775807) (hp : p ≤ 9223372036854775807) (ht : tag < 18446744073709551616) (w : World) :
    Calls Try.prog 64 #[.agg #[.int .i64 o, .int .i64 p, .int .u64 tag]] w fun e w' => e = .returned (.tuple #[.string (helloText o p tag), .int .i64 0]) ∧ Keeps [] w w' := by
  have s1 := num_size (n := o) (by omega)
  have s2 := num_size (n := p) (by omega)
  have s3 := num_size (n := tag) ht
  have g1 : ¬ 9223372036854775807 < (txt (vput o)).size + (txt (vput p)).size := by omega
  have g2 : ¬ 9223372036854775807 < (txt (vput o)).size + (txt (vput p)).size + (txt (vput tag)).size := by omega
  clear s1 s2 s3
  have wo : IntKind.u64.wrap (o : Int) = (o : Int) := by rw [u64_wrap_nat, Nat.mod_eq_of_lt (by omega)]
  have wp : IntKind.u64.wrap (p : Int) = (p : Int) := by rw [u64_wrap_nat, Nat.mod_eq_of_lt (by omega)]
  have d0 : decide ((o : Int) < 0) = false := decide_eq_false (by omega)
  have d1 : decide ((p : Int) < 0) = false := decide_eq_false (by omega)
  have c1 := fun w => rPut10 o (by omega) w
  have c2 := fun w => rPut10 p (by omega) w
  have C1 := Aside.mk c1
  have C2 := Aside.mk c2
  clear c1 c2
  go_enter Try.func64, Try.ntmps64
  go_wp2_with fail
  go_region_held3 (fun w' => w'.cell? ⟨w.heap.size, 0, none⟩ = some (.int .i64 o) ∧ w'.cell? ⟨w.heap.size, 1, none⟩ = some (.int .i64 p) ∧ w'.cell? ⟨w.heap.size, 2, none⟩ = some (.int .u64 tag) ∧ Keeps [] w w')
    (first | ((try dsimp only); go_split_ands; (repeat' apply And.intro) <;> first | (simp; done) | assumption | (exact Keeps.cell (by assumption) (by assumption) (by simp)) | (exact Keeps.nil_trans (by assumption) (by assumption)) | (exact ((Keeps.refl _ _).alloc _).drew)))
    (first
      | (go_at_call 30; (with_reducible refine (C1.out _).mono ?_); rintro e w' ⟨rfl, hk⟩)
      | (go_at_call 30; (with_reducible refine (C2.out _).mono ?_); rintro e w' ⟨rfl, hk⟩)
      | (go_at_call 30; (with_reducible refine (rPut10 tag ht _).mono ?_); rintro e w' ⟨rfl, hk⟩))
  all_goals
    go_split_ands
    go_wp2_with fail
    go_ret2
    exact ⟨rfl, by assumption⟩

set_option maxRecDepth 4000 in
theorem rHelloPut_calls_no (o p : Int) (tag : Nat) (h : o < 0 ∨ p < 0) (w : World) :
    Calls Try.prog 64 #[.agg #[.int .i64 o, .int .i64 p, .int .u64 tag]] w fun e w' => e = .returned (.tuple #[.string ⟨#[]⟩, .int .i64 1]) ∧ Keeps [] w w' := by
  by_cases ho : o < 0
  · clear h
    go_enter Try.func64, Try.ntmps64
    go_wp2_with fail
    go_ret2
    exact ⟨rfl, (Keeps.refl _ _).alloc _⟩
  · have hp : p < 0 := by omega
    clear h
    go_enter Try.func64, Try.ntmps64
    go_wp2_with fail
    go_ret2
    exact ⟨rfl, (Keeps.refl _ _).alloc _⟩

theorem awake22_text : helloText 1 1 5 = ⟨#[1, 1, 5]⟩ := by
  unfold helloText
  rw [vput_lt (n := 1) (by omega), vput_lt (n := 5) (by omega)]
  decide +kernel

set_option maxRecDepth 4000 in
theorem awake22 (w : World) : Calls Try.prog 67 #[] w fun e w' => e = .returned (.bool true) ∧ Keeps [] w w' := by
  go_enter Try.func67, Try.ntmps67
  go_wp2_with fail
  refine (helloPut_calls 1 1 5 (by omega) (by omega) (by omega) _).mono ?_
  rintro e w1 ⟨rfl, hk⟩
  rw [awake22_text]
  go_wp2_with fail
  go_ret
  exact ⟨rfl, hk⟩

end Go.Proofs.Ythcjcgagbpfkpaa

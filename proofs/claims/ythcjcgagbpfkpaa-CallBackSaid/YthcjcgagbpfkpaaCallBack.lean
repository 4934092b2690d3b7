/- CallBack: what is put is taken, if it is within its bounds, and else not. -/
import Derived.Test.YthcjcgagbpfkpaaCallLaw
import Derived.Test.YthcjcgagbpfkpaaCallPuts
namespace Go.Proofs.Ythcjcgagbpfkpaa
set_option linter.unusedSimpArgs false
set_option linter.unusedVariables false
open Go.RowKit

def posOf (a : Int) : Int := max a 0
theorem max_pos (ats : Array TypeId) (ty : TypeId) (k k' : IntKind) (a : Int) : Builtin.max_ ats ty #[.int k a, .int k' 0] = pure (.int k (posOf a)) := by
  unfold posOf
  simp only [Builtin.max_, List.foldlM_cons, List.foldlM_nil, Builtin.max2, gt_iff_lt]
  by_cases h : a < 0
  · simp [h, show max a 0 = 0 by omega]
  · simp [h, show max a 0 = a by omega]
theorem posOf_of {a : Int} {n : Nat} (h : n = a.toNat) : (n : Int) = posOf a := by
  unfold posOf
  omega
attribute [local go_sem ↓ high] max_pos
theorem callText_nat (id : Nat) (wt nm : Int) (s : ByteArray) : callText id wt nm s = callText id (wt.toNat : Nat) (nm.toNat : Nat) s := by
  unfold callText
  rw [Int.toNat_natCast, Int.toNat_natCast]
theorem bindText_nat (id : Nat) (num : Int) (sv mt : ByteArray) (op : Int) : bindText id num sv mt op = bindText id (num.toNat : Nat) sv mt (op.toNat : Nat) := by
  unfold bindText
  rw [Int.toNat_natCast, Int.toNat_natCast]

set_option maxRecDepth 8000 in
set_option maxHeartbeats 40000000 in
theorem callBack_walk (id : Nat) (hid : id < 18446744073709551616) (wt : Int) (_ : -9223372036854775808 ≤ wt) (hw : wt ≤ 9223372036854775807) (nm : Int) (_ : -9223372036854775808 ≤ nm) (hn : nm ≤ 9223372036854775807)
    (sa : ByteArray) (hsa : sa.size ≤ 140737488351232)
    (jd : Nat) (hjd : jd < 18446744073709551616) (num : Int) (_ : -9223372036854775808 ≤ num) (hnum : num ≤ 9223372036854775807) (sv : ByteArray) (hsv : sv.size ≤ 140737488351232) (mt : ByteArray) (hmt : mt.size ≤ 140737488351232)
    (op : Int) (_ : -9223372036854775808 ≤ op) (ho : op ≤ 9223372036854775807) (s : ByteArray) (hs : s.size ≤ 140737488351232) (w : World) :
    Calls Try.prog 20 #[.agg #[.int .u64 id, .int .i64 wt, .int .i64 nm, .string sa], .agg #[.int .u64 jd, .int .i64 num, .string sv, .string mt, .int .i64 op], .string s] w fun e w' => e = .returned (.bool true) ∧ Keeps [] w w' := by
  obtain ⟨W, hW⟩ : ∃ W : Nat, W = wt.toNat := ⟨_, rfl⟩
  obtain ⟨N, hN⟩ : ∃ N : Nat, N = nm.toNat := ⟨_, rfl⟩
  obtain ⟨U, hU⟩ : ∃ U : Nat, U = num.toNat := ⟨_, rfl⟩
  obtain ⟨O, hO⟩ : ∃ O : Nat, O = op.toNat := ⟨_, rfl⟩
  have mW := Aside.mk (posOf_of hW)
  have mN := Aside.mk (posOf_of hN)
  have mU := Aside.mk (posOf_of hU)
  have mO := Aside.mk (posOf_of hO)
  obtain ⟨T, hT⟩ : ∃ T, T = callText id wt nm sa := ⟨_, rfl⟩
  obtain ⟨V, hV⟩ : ∃ V, V = bindText jd num sv mt op := ⟨_, rfl⟩
  obtain ⟨Z, hZ⟩ : ∃ Z, Z = txt (vput id) ++ s := ⟨_, rfl⟩
  obtain ⟨Q, hQ⟩ : ∃ Q, Q = txt (vput jd) := ⟨_, rfl⟩
  have K1 := Aside.mk (fun w => ours_calls id wt nm sa w)
  have K2 := Aside.mk (fun w => putCall_calls id wt nm sa hid hw hn hsa w)
  have K4 := Aside.mk (fun w => bindOf_calls jd num sv mt op w)
  have K5 := Aside.mk (fun w => putBind_calls jd num sv mt op hjd hnum hsv hmt ho w)
  have K7 := Aside.mk (fun w => putSchema_calls id s hid hs w)
  have K9 := Aside.mk (fun w => putCancel_calls jd hjd w)
  rw [← hT] at K2
  rw [← hV] at K5
  rw [← hZ] at K7
  rw [← hQ] at K9
  have n1 := num_size (n := id) hid
  have n2 := num_size (n := wt.toNat) (by omega)
  have n3 := num_size (n := nm.toNat) (by omega)
  have n4 := num_size (n := jd) hjd
  have n5 := num_size (n := num.toNat) (by omega)
  have n6 := num_size (n := op.toNat) (by omega)
  have n7 := span_size hsv
  have n8 := span_size hmt
  have sT : T.size ≤ 1152921504606846976 := by rw [hT, callText]; simp only [ByteArray.size_append]; omega
  have sV : V.size ≤ 1152921504606846976 := by rw [hV, bindText]; simp only [ByteArray.size_append]; omega
  have sZ : Z.size ≤ 1152921504606846976 := by rw [hZ]; simp only [ByteArray.size_append]; omega
  have sQ : Q.size ≤ 1152921504606846976 := by rw [hQ]; omega
  have p3 := schemaT_put id s hid
  rw [← hZ] at p3
  have p4 := cancelT_put jd hjd
  rw [← hQ] at p4
  have K8 := Aside.mk (fun w => takeSchema_calls Z sZ p3 w)
  have K10 := Aside.mk (fun w => takeCancel_calls Q sQ p4 w)
  have p1 := callT_put id W N sa hid (by omega) (by omega)
  rw [hW, hN, ← callText_nat, ← hT, ← hW, ← hN] at p1
  have p2 := bindT_put jd U O sv mt hjd (by omega) (by omega) (by omega) (by omega)
  rw [hU, hO, ← bindText_nat, ← hV, ← hU, ← hO] at p2
  have hW2 : wt ≤ 1048576 ↔ W ≤ 1048576 := by omega
  have hN2 : nm ≤ 1048576 ↔ N ≤ 1048576 := by omega
  have hU2 : num ≤ 1048576 ↔ U ≤ 1048576 := by omega
  have hO2 : op ≤ 1048576 ↔ O ≤ 1048576 := by omega
  have hw0 := Whole.new w 24 #[.int .u64 id, .int .i64 wt, .int .i64 nm, .string sa]
  have hw1 := Whole.new (w.alloc (.cells #[.int .u64 id, .int .i64 wt, .int .i64 nm, .string sa] 24)) 26 #[.int .u64 jd, .int .i64 num, .string sv, .string mt, .int .i64 op]
  rw [World.size_alloc] at hw1
  have hw0' := hw0.alloc (.cells #[.int .u64 jd, .int .i64 num, .string sv, .string mt, .int .i64 op] 26)
  have hk0 := ((Keeps.refl [] w).alloc (.cells #[.int .u64 id, .int .i64 wt, .int .i64 nm, .string sa] 24)).alloc (.cells #[.int .u64 jd, .int .i64 num, .string sv, .string mt, .int .i64 op] 26)
  clear p3 p4 hW hN hU hO hT hV hZ hQ n1 n2 n3 n4 n5 n6 n7 n8 hw0 sZ sQ
  by_cases q1 : wt ≤ 1048576 ∧ nm ≤ 1048576
  · have K3 := Aside.mk (fun w => takeCall_calls T sT (p1.1 ⟨hW2.1 q1.1, hN2.1 q1.2⟩) w)
    rw [mW.out, mN.out] at K3
    obtain ⟨d1, d2⟩ := q1
    clear p1 hW2 hN2 sT mW mN
    by_cases q3 : num ≤ 1048576 ∧ op ≤ 1048576 ∧ sv.size ≤ 16 ∧ mt.size ≤ 16
    · have K6 := Aside.mk (fun w => takeBind_calls V sV (p2.1 ⟨hU2.1 q3.1, hO2.1 q3.2.1, q3.2.2⟩) w)
      rw [mU.out, mO.out] at K6
      obtain ⟨c1, c2, c3, c4⟩ := q3
      clear p2 hU2 hO2 sV mU mO
      go_enter Try.func20, Try.ntmps20
      go_wp2_with fail
      refine (K1.out _).mono ?_
      rintro e' u1 ⟨rfl, k1⟩
      go_wp2_with fail
      refine (K2.out _).mono ?_
      rintro e' u2 ⟨rfl, k2⟩
      go_wp2_with fail
      refine (K3.out _).mono ?_
      rintro e' u3 ⟨rfl, k3⟩
      have t1 := ((hk0.nil_trans k1).nil_trans k2).nil_trans k3
      have G0 := (k3.whole (k2.whole (k1.whole hw0' (by simp)) (by simp)) (by simp)).alloc (.cells #[.int .u64 id, .int .i64 (posOf wt), .int .i64 (posOf nm), .string sa] 28)
      have G1 := (k3.whole (k2.whole (k1.whole hw1 (by simp)) (by simp)) (by simp)).alloc (.cells #[.int .u64 id, .int .i64 (posOf wt), .int .i64 (posOf nm), .string sa] 28)
      have t2 := t1.alloc (.cells #[.int .u64 id, .int .i64 (posOf wt), .int .i64 (posOf nm), .string sa] 28)
      clear k1 k2 k3 t1
      have a0 : (u3.alloc (.cells #[.int .u64 id, .int .i64 (posOf wt), .int .i64 (posOf nm), .string sa] 28)).cell? ⟨w.heap.size, 0, none⟩ = some (.int .u64 id) := G0.cell 0
      have a1 : (u3.alloc (.cells #[.int .u64 id, .int .i64 (posOf wt), .int .i64 (posOf nm), .string sa] 28)).cell? ⟨w.heap.size, 1, none⟩ = some (.int .i64 wt) := G0.cell 1
      have a2 : (u3.alloc (.cells #[.int .u64 id, .int .i64 (posOf wt), .int .i64 (posOf nm), .string sa] 28)).cell? ⟨w.heap.size, 2, none⟩ = some (.int .i64 nm) := G0.cell 2
      have a3 : (u3.alloc (.cells #[.int .u64 id, .int .i64 (posOf wt), .int .i64 (posOf nm), .string sa] 28)).cell? ⟨w.heap.size, 3, none⟩ = some (.string sa) := G0.cell 3
      have b0 : (u3.alloc (.cells #[.int .u64 id, .int .i64 (posOf wt), .int .i64 (posOf nm), .string sa] 28)).cell? ⟨w.heap.size + 1, 0, none⟩ = some (.int .u64 jd) := G1.cell 0
      have b1 : (u3.alloc (.cells #[.int .u64 id, .int .i64 (posOf wt), .int .i64 (posOf nm), .string sa] 28)).cell? ⟨w.heap.size + 1, 1, none⟩ = some (.int .i64 num) := G1.cell 1
      have b2 : (u3.alloc (.cells #[.int .u64 id, .int .i64 (posOf wt), .int .i64 (posOf nm), .string sa] 28)).cell? ⟨w.heap.size + 1, 2, none⟩ = some (.string sv) := G1.cell 2
      have b3 : (u3.alloc (.cells #[.int .u64 id, .int .i64 (posOf wt), .int .i64 (posOf nm), .string sa] 28)).cell? ⟨w.heap.size + 1, 3, none⟩ = some (.string mt) := G1.cell 3
      have b4 : (u3.alloc (.cells #[.int .u64 id, .int .i64 (posOf wt), .int .i64 (posOf nm), .string sa] 28)).cell? ⟨w.heap.size + 1, 4, none⟩ = some (.int .i64 op) := G1.cell 4
      have G2 := Whole.new u3 28 #[.int .u64 id, .int .i64 (posOf wt), .int .i64 (posOf nm), .string sa]
      have x0 : (u3.alloc (.cells #[.int .u64 id, .int .i64 (posOf wt), .int .i64 (posOf nm), .string sa] 28)).cell? ⟨u3.heap.size, 0, none⟩ = some (.int .u64 id) := G2.cell 0
      have x1 : (u3.alloc (.cells #[.int .u64 id, .int .i64 (posOf wt), .int .i64 (posOf nm), .string sa] 28)).cell? ⟨u3.heap.size, 1, none⟩ = some (.int .i64 (posOf wt)) := G2.cell 1
      have x2 : (u3.alloc (.cells #[.int .u64 id, .int .i64 (posOf wt), .int .i64 (posOf nm), .string sa] 28)).cell? ⟨u3.heap.size, 2, none⟩ = some (.int .i64 (posOf nm)) := G2.cell 2
      have x3 : (u3.alloc (.cells #[.int .u64 id, .int .i64 (posOf wt), .int .i64 (posOf nm), .string sa] 28)).cell? ⟨u3.heap.size, 3, none⟩ = some (.string sa) := G2.cell 3
      clear G2
      go_wp2_with fail
      refine (K4.out _).mono ?_
      rintro e' u4 ⟨rfl, k4⟩
      clear a0 a1 a2 a3 b0 b1 b2 b3 b4 x0 x1 x2 x3
      go_wp2_with fail
      refine (K5.out _).mono ?_
      rintro e' u5 ⟨rfl, k5⟩
      go_wp2_with fail
      refine (K6.out _).mono ?_
      rintro e' u6 ⟨rfl, k6⟩
      have H0 := (k6.whole (k5.whole (k4.whole G0 (by simp)) (by simp)) (by simp)).alloc (.cells #[.int .u64 jd, .int .i64 (posOf num), .string sv, .string mt, .int .i64 (posOf op)] 32)
      have H1 := (k6.whole (k5.whole (k4.whole G1 (by simp)) (by simp)) (by simp)).alloc (.cells #[.int .u64 jd, .int .i64 (posOf num), .string sv, .string mt, .int .i64 (posOf op)] 32)
      have t3 := (((t2.nil_trans k4).nil_trans k5).nil_trans k6).alloc (.cells #[.int .u64 jd, .int .i64 (posOf num), .string sv, .string mt, .int .i64 (posOf op)] 32)
      clear k4 k5 k6 t2 G0 G1
      have a0 : (u6.alloc (.cells #[.int .u64 jd, .int .i64 (posOf num), .string sv, .string mt, .int .i64 (posOf op)] 32)).cell? ⟨w.heap.size, 0, none⟩ = some (.int .u64 id) := H0.cell 0
      have b0 : (u6.alloc (.cells #[.int .u64 jd, .int .i64 (posOf num), .string sv, .string mt, .int .i64 (posOf op)] 32)).cell? ⟨w.heap.size + 1, 0, none⟩ = some (.int .u64 jd) := H1.cell 0
      have b1 : (u6.alloc (.cells #[.int .u64 jd, .int .i64 (posOf num), .string sv, .string mt, .int .i64 (posOf op)] 32)).cell? ⟨w.heap.size + 1, 1, none⟩ = some (.int .i64 num) := H1.cell 1
      have b2 : (u6.alloc (.cells #[.int .u64 jd, .int .i64 (posOf num), .string sv, .string mt, .int .i64 (posOf op)] 32)).cell? ⟨w.heap.size + 1, 2, none⟩ = some (.string sv) := H1.cell 2
      have b3 : (u6.alloc (.cells #[.int .u64 jd, .int .i64 (posOf num), .string sv, .string mt, .int .i64 (posOf op)] 32)).cell? ⟨w.heap.size + 1, 3, none⟩ = some (.string mt) := H1.cell 3
      have b4 : (u6.alloc (.cells #[.int .u64 jd, .int .i64 (posOf num), .string sv, .string mt, .int .i64 (posOf op)] 32)).cell? ⟨w.heap.size + 1, 4, none⟩ = some (.int .i64 op) := H1.cell 4
      have G2 := Whole.new u6 32 #[.int .u64 jd, .int .i64 (posOf num), .string sv, .string mt, .int .i64 (posOf op)]
      have x0 : (u6.alloc (.cells #[.int .u64 jd, .int .i64 (posOf num), .string sv, .string mt, .int .i64 (posOf op)] 32)).cell? ⟨u6.heap.size, 0, none⟩ = some (.int .u64 jd) := G2.cell 0
      have x1 : (u6.alloc (.cells #[.int .u64 jd, .int .i64 (posOf num), .string sv, .string mt, .int .i64 (posOf op)] 32)).cell? ⟨u6.heap.size, 1, none⟩ = some (.int .i64 (posOf num)) := G2.cell 1
      have x2 : (u6.alloc (.cells #[.int .u64 jd, .int .i64 (posOf num), .string sv, .string mt, .int .i64 (posOf op)] 32)).cell? ⟨u6.heap.size, 2, none⟩ = some (.string sv) := G2.cell 2
      have x3 : (u6.alloc (.cells #[.int .u64 jd, .int .i64 (posOf num), .string sv, .string mt, .int .i64 (posOf op)] 32)).cell? ⟨u6.heap.size, 3, none⟩ = some (.string mt) := G2.cell 3
      have x4 : (u6.alloc (.cells #[.int .u64 jd, .int .i64 (posOf num), .string sv, .string mt, .int .i64 (posOf op)] 32)).cell? ⟨u6.heap.size, 4, none⟩ = some (.int .i64 (posOf op)) := G2.cell 4
      clear G2
      go_wp2_with fail
      refine (K7.out _).mono ?_
      rintro e' u7 ⟨rfl, k7⟩
      clear a0 b0 b1 b2 b3 b4 x0 x1 x2 x3 x4
      go_wp2_with fail
      refine (K8.out _).mono ?_
      rintro e' u8 ⟨rfl, k8⟩
      have I0 := k8.whole (k7.whole H0 (by simp)) (by simp)
      have I1 := k8.whole (k7.whole H1 (by simp)) (by simp)
      have b0 : u8.cell? ⟨w.heap.size + 1, 0, none⟩ = some (.int .u64 jd) := I1.cell 0
      go_wp2_with fail
      refine (K9.out _).mono ?_
      rintro e' u9 ⟨rfl, k9⟩
      clear b0
      go_wp2_with fail
      refine (K10.out _).mono ?_
      rintro e' u10 ⟨rfl, k10⟩
      have a0 : u10.cell? ⟨w.heap.size, 0, none⟩ = some (.int .u64 id) := (k10.whole (k9.whole I0 (by simp)) (by simp)).cell 0
      have b0 : u10.cell? ⟨w.heap.size + 1, 0, none⟩ = some (.int .u64 jd) := (k10.whole (k9.whole I1 (by simp)) (by simp)).cell 0
      have t4 := (((t3.nil_trans k7).nil_trans k8).nil_trans k9).nil_trans k10
      clear t3 k7 k8 k9 k10 H0 H1 I0 I1
      go_wp2_with fail
      refine (awake34 _).mono ?_
      rintro e' u11 ⟨rfl, k11⟩
      go_wp2_with fail
      go_ret
      exact ⟨rfl, t4.nil_trans k11⟩
    · have K6 := Aside.mk (fun w => takeBind_calls V sV (p2.2 (fun h => q3 ⟨hU2.2 h.1, hO2.2 h.2.1, h.2.2⟩)) w)
      have q4 : ¬ num ≤ 1048576 ∨ (num ≤ 1048576 ∧ ¬ op ≤ 1048576) ∨ (num ≤ 1048576 ∧ op ≤ 1048576 ∧ ¬ sv.size ≤ 16) ∨ (num ≤ 1048576 ∧ op ≤ 1048576 ∧ sv.size ≤ 16 ∧ ¬ mt.size ≤ 16) := by omega
      clear p2 hU2 hO2 sV q3 mU mO
      rcases q4 with c1 | ⟨c1, c2⟩ | ⟨c1, c2, c3⟩ | ⟨c1, c2, c3, c4⟩
      all_goals
        go_enter Try.func20, Try.ntmps20
        go_wp2_with fail
        refine (K1.out _).mono ?_
        rintro e' u1 ⟨rfl, k1⟩
        go_wp2_with fail
        refine (K2.out _).mono ?_
        rintro e' u2 ⟨rfl, k2⟩
        go_wp2_with fail
        refine (K3.out _).mono ?_
        rintro e' u3 ⟨rfl, k3⟩
        have t1 := ((hk0.nil_trans k1).nil_trans k2).nil_trans k3
        have G0 := (k3.whole (k2.whole (k1.whole hw0' (by simp)) (by simp)) (by simp)).alloc (.cells #[.int .u64 id, .int .i64 (posOf wt), .int .i64 (posOf nm), .string sa] 28)
        have G1 := (k3.whole (k2.whole (k1.whole hw1 (by simp)) (by simp)) (by simp)).alloc (.cells #[.int .u64 id, .int .i64 (posOf wt), .int .i64 (posOf nm), .string sa] 28)
        have t2 := t1.alloc (.cells #[.int .u64 id, .int .i64 (posOf wt), .int .i64 (posOf nm), .string sa] 28)
        clear k1 k2 k3 t1
        have a0 : (u3.alloc (.cells #[.int .u64 id, .int .i64 (posOf wt), .int .i64 (posOf nm), .string sa] 28)).cell? ⟨w.heap.size, 0, none⟩ = some (.int .u64 id) := G0.cell 0
        have a1 : (u3.alloc (.cells #[.int .u64 id, .int .i64 (posOf wt), .int .i64 (posOf nm), .string sa] 28)).cell? ⟨w.heap.size, 1, none⟩ = some (.int .i64 wt) := G0.cell 1
        have a2 : (u3.alloc (.cells #[.int .u64 id, .int .i64 (posOf wt), .int .i64 (posOf nm), .string sa] 28)).cell? ⟨w.heap.size, 2, none⟩ = some (.int .i64 nm) := G0.cell 2
        have a3 : (u3.alloc (.cells #[.int .u64 id, .int .i64 (posOf wt), .int .i64 (posOf nm), .string sa] 28)).cell? ⟨w.heap.size, 3, none⟩ = some (.string sa) := G0.cell 3
        have b0 : (u3.alloc (.cells #[.int .u64 id, .int .i64 (posOf wt), .int .i64 (posOf nm), .string sa] 28)).cell? ⟨w.heap.size + 1, 0, none⟩ = some (.int .u64 jd) := G1.cell 0
        have b1 : (u3.alloc (.cells #[.int .u64 id, .int .i64 (posOf wt), .int .i64 (posOf nm), .string sa] 28)).cell? ⟨w.heap.size + 1, 1, none⟩ = some (.int .i64 num) := G1.cell 1
        have b2 : (u3.alloc (.cells #[.int .u64 id, .int .i64 (posOf wt), .int .i64 (posOf nm), .string sa] 28)).cell? ⟨w.heap.size + 1, 2, none⟩ = some (.string sv) := G1.cell 2
        have b3 : (u3.alloc (.cells #[.int .u64 id, .int .i64 (posOf wt), .int .i64 (posOf nm), .string sa] 28)).cell? ⟨w.heap.size + 1, 3, none⟩ = some (.string mt) := G1.cell 3
        have b4 : (u3.alloc (.cells #[.int .u64 id, .int .i64 (posOf wt), .int .i64 (posOf nm), .string sa] 28)).cell? ⟨w.heap.size + 1, 4, none⟩ = some (.int .i64 op) := G1.cell 4
        have G2 := Whole.new u3 28 #[.int .u64 id, .int .i64 (posOf wt), .int .i64 (posOf nm), .string sa]
        have x0 : (u3.alloc (.cells #[.int .u64 id, .int .i64 (posOf wt), .int .i64 (posOf nm), .string sa] 28)).cell? ⟨u3.heap.size, 0, none⟩ = some (.int .u64 id) := G2.cell 0
        have x1 : (u3.alloc (.cells #[.int .u64 id, .int .i64 (posOf wt), .int .i64 (posOf nm), .string sa] 28)).cell? ⟨u3.heap.size, 1, none⟩ = some (.int .i64 (posOf wt)) := G2.cell 1
        have x2 : (u3.alloc (.cells #[.int .u64 id, .int .i64 (posOf wt), .int .i64 (posOf nm), .string sa] 28)).cell? ⟨u3.heap.size, 2, none⟩ = some (.int .i64 (posOf nm)) := G2.cell 2
        have x3 : (u3.alloc (.cells #[.int .u64 id, .int .i64 (posOf wt), .int .i64 (posOf nm), .string sa] 28)).cell? ⟨u3.heap.size, 3, none⟩ = some (.string sa) := G2.cell 3
        clear G2
        go_wp2_with fail
        refine (K4.out _).mono ?_
        rintro e' u4 ⟨rfl, k4⟩
        clear a0 a1 a2 a3 b0 b1 b2 b3 b4 x0 x1 x2 x3
        go_wp2_with fail
        refine (K5.out _).mono ?_
        rintro e' u5 ⟨rfl, k5⟩
        go_wp2_with fail
        refine (K6.out _).mono ?_
        rintro e' u6 ⟨rfl, k6⟩
        have H0 := (k6.whole (k5.whole (k4.whole G0 (by simp)) (by simp)) (by simp)).alloc (.cells #[.int .u64 0, .int .i64 0, .string ⟨#[]⟩, .string ⟨#[]⟩, .int .i64 0] 32)
        have H1 := (k6.whole (k5.whole (k4.whole G1 (by simp)) (by simp)) (by simp)).alloc (.cells #[.int .u64 0, .int .i64 0, .string ⟨#[]⟩, .string ⟨#[]⟩, .int .i64 0] 32)
        have t3 := (((t2.nil_trans k4).nil_trans k5).nil_trans k6).alloc (.cells #[.int .u64 0, .int .i64 0, .string ⟨#[]⟩, .string ⟨#[]⟩, .int .i64 0] 32)
        clear k4 k5 k6 t2 G0 G1
        have a0 : (u6.alloc (.cells #[.int .u64 0, .int .i64 0, .string ⟨#[]⟩, .string ⟨#[]⟩, .int .i64 0] 32)).cell? ⟨w.heap.size, 0, none⟩ = some (.int .u64 id) := H0.cell 0
        have b0 : (u6.alloc (.cells #[.int .u64 0, .int .i64 0, .string ⟨#[]⟩, .string ⟨#[]⟩, .int .i64 0] 32)).cell? ⟨w.heap.size + 1, 0, none⟩ = some (.int .u64 jd) := H1.cell 0
        have b1 : (u6.alloc (.cells #[.int .u64 0, .int .i64 0, .string ⟨#[]⟩, .string ⟨#[]⟩, .int .i64 0] 32)).cell? ⟨w.heap.size + 1, 1, none⟩ = some (.int .i64 num) := H1.cell 1
        have b2 : (u6.alloc (.cells #[.int .u64 0, .int .i64 0, .string ⟨#[]⟩, .string ⟨#[]⟩, .int .i64 0] 32)).cell? ⟨w.heap.size + 1, 2, none⟩ = some (.string sv) := H1.cell 2
        have b3 : (u6.alloc (.cells #[.int .u64 0, .int .i64 0, .string ⟨#[]⟩, .string ⟨#[]⟩, .int .i64 0] 32)).cell? ⟨w.heap.size + 1, 3, none⟩ = some (.string mt) := H1.cell 3
        have b4 : (u6.alloc (.cells #[.int .u64 0, .int .i64 0, .string ⟨#[]⟩, .string ⟨#[]⟩, .int .i64 0] 32)).cell? ⟨w.heap.size + 1, 4, none⟩ = some (.int .i64 op) := H1.cell 4
        go_wp2_with fail
        refine (K7.out _).mono ?_
        rintro e' u7 ⟨rfl, k7⟩
        clear a0 b0 b1 b2 b3 b4
        go_wp2_with fail
        refine (K8.out _).mono ?_
        rintro e' u8 ⟨rfl, k8⟩
        have I0 := k8.whole (k7.whole H0 (by simp)) (by simp)
        have I1 := k8.whole (k7.whole H1 (by simp)) (by simp)
        have b0 : u8.cell? ⟨w.heap.size + 1, 0, none⟩ = some (.int .u64 jd) := I1.cell 0
        go_wp2_with fail
        refine (K9.out _).mono ?_
        rintro e' u9 ⟨rfl, k9⟩
        clear b0
        go_wp2_with fail
        refine (K10.out _).mono ?_
        rintro e' u10 ⟨rfl, k10⟩
        have a0 : u10.cell? ⟨w.heap.size, 0, none⟩ = some (.int .u64 id) := (k10.whole (k9.whole I0 (by simp)) (by simp)).cell 0
        have b0 : u10.cell? ⟨w.heap.size + 1, 0, none⟩ = some (.int .u64 jd) := (k10.whole (k9.whole I1 (by simp)) (by simp)).cell 0
        have t4 := (((t3.nil_trans k7).nil_trans k8).nil_trans k9).nil_trans k10
        clear t3 k7 k8 k9 k10 H0 H1 I0 I1
        go_wp2_with fail
        refine (awake34 _).mono ?_
        rintro e' u11 ⟨rfl, k11⟩
        go_wp2_with fail
        go_ret
        exact ⟨rfl, t4.nil_trans k11⟩
  · have K3 := Aside.mk (fun w => takeCall_calls T sT (p1.2 (fun h => q1 ⟨hW2.2 h.1, hN2.2 h.2⟩)) w)
    have q2 : ¬ wt ≤ 1048576 ∨ (wt ≤ 1048576 ∧ ¬ nm ≤ 1048576) := by omega
    clear p1 hW2 hN2 sT q1 mW mN
    rcases q2 with d1 | ⟨d1, d2⟩
    all_goals
      by_cases q3 : num ≤ 1048576 ∧ op ≤ 1048576 ∧ sv.size ≤ 16 ∧ mt.size ≤ 16
      · have K6 := Aside.mk (fun w => takeBind_calls V sV (p2.1 ⟨hU2.1 q3.1, hO2.1 q3.2.1, q3.2.2⟩) w)
        rw [mU.out, mO.out] at K6
        obtain ⟨c1, c2, c3, c4⟩ := q3
        clear p2 hU2 hO2 sV mU mO
        go_enter Try.func20, Try.ntmps20
        go_wp2_with fail
        refine (K1.out _).mono ?_
        rintro e' u1 ⟨rfl, k1⟩
        go_wp2_with fail
        refine (K2.out _).mono ?_
        rintro e' u2 ⟨rfl, k2⟩
        go_wp2_with fail
        refine (K3.out _).mono ?_
        rintro e' u3 ⟨rfl, k3⟩
        have t1 := ((hk0.nil_trans k1).nil_trans k2).nil_trans k3
        have G0 := (k3.whole (k2.whole (k1.whole hw0' (by simp)) (by simp)) (by simp)).alloc (.cells #[.int .u64 0, .int .i64 0, .int .i64 0, .string ⟨#[]⟩] 28)
        have G1 := (k3.whole (k2.whole (k1.whole hw1 (by simp)) (by simp)) (by simp)).alloc (.cells #[.int .u64 0, .int .i64 0, .int .i64 0, .string ⟨#[]⟩] 28)
        have t2 := t1.alloc (.cells #[.int .u64 0, .int .i64 0, .int .i64 0, .string ⟨#[]⟩] 28)
        clear k1 k2 k3 t1
        have a0 : (u3.alloc (.cells #[.int .u64 0, .int .i64 0, .int .i64 0, .string ⟨#[]⟩] 28)).cell? ⟨w.heap.size, 0, none⟩ = some (.int .u64 id) := G0.cell 0
        have a1 : (u3.alloc (.cells #[.int .u64 0, .int .i64 0, .int .i64 0, .string ⟨#[]⟩] 28)).cell? ⟨w.heap.size, 1, none⟩ = some (.int .i64 wt) := G0.cell 1
        have a2 : (u3.alloc (.cells #[.int .u64 0, .int .i64 0, .int .i64 0, .string ⟨#[]⟩] 28)).cell? ⟨w.heap.size, 2, none⟩ = some (.int .i64 nm) := G0.cell 2
        have a3 : (u3.alloc (.cells #[.int .u64 0, .int .i64 0, .int .i64 0, .string ⟨#[]⟩] 28)).cell? ⟨w.heap.size, 3, none⟩ = some (.string sa) := G0.cell 3
        have b0 : (u3.alloc (.cells #[.int .u64 0, .int .i64 0, .int .i64 0, .string ⟨#[]⟩] 28)).cell? ⟨w.heap.size + 1, 0, none⟩ = some (.int .u64 jd) := G1.cell 0
        have b1 : (u3.alloc (.cells #[.int .u64 0, .int .i64 0, .int .i64 0, .string ⟨#[]⟩] 28)).cell? ⟨w.heap.size + 1, 1, none⟩ = some (.int .i64 num) := G1.cell 1
        have b2 : (u3.alloc (.cells #[.int .u64 0, .int .i64 0, .int .i64 0, .string ⟨#[]⟩] 28)).cell? ⟨w.heap.size + 1, 2, none⟩ = some (.string sv) := G1.cell 2
        have b3 : (u3.alloc (.cells #[.int .u64 0, .int .i64 0, .int .i64 0, .string ⟨#[]⟩] 28)).cell? ⟨w.heap.size + 1, 3, none⟩ = some (.string mt) := G1.cell 3
        have b4 : (u3.alloc (.cells #[.int .u64 0, .int .i64 0, .int .i64 0, .string ⟨#[]⟩] 28)).cell? ⟨w.heap.size + 1, 4, none⟩ = some (.int .i64 op) := G1.cell 4
        go_wp2_with fail
        refine (K4.out _).mono ?_
        rintro e' u4 ⟨rfl, k4⟩
        clear a0 a1 a2 a3 b0 b1 b2 b3 b4
        go_wp2_with fail
        refine (K5.out _).mono ?_
        rintro e' u5 ⟨rfl, k5⟩
        go_wp2_with fail
        refine (K6.out _).mono ?_
        rintro e' u6 ⟨rfl, k6⟩
        have H0 := (k6.whole (k5.whole (k4.whole G0 (by simp)) (by simp)) (by simp)).alloc (.cells #[.int .u64 jd, .int .i64 (posOf num), .string sv, .string mt, .int .i64 (posOf op)] 32)
        have H1 := (k6.whole (k5.whole (k4.whole G1 (by simp)) (by simp)) (by simp)).alloc (.cells #[.int .u64 jd, .int .i64 (posOf num), .string sv, .string mt, .int .i64 (posOf op)] 32)
        have t3 := (((t2.nil_trans k4).nil_trans k5).nil_trans k6).alloc (.cells #[.int .u64 jd, .int .i64 (posOf num), .string sv, .string mt, .int .i64 (posOf op)] 32)
        clear k4 k5 k6 t2 G0 G1
        have a0 : (u6.alloc (.cells #[.int .u64 jd, .int .i64 (posOf num), .string sv, .string mt, .int .i64 (posOf op)] 32)).cell? ⟨w.heap.size, 0, none⟩ = some (.int .u64 id) := H0.cell 0
        have b0 : (u6.alloc (.cells #[.int .u64 jd, .int .i64 (posOf num), .string sv, .string mt, .int .i64 (posOf op)] 32)).cell? ⟨w.heap.size + 1, 0, none⟩ = some (.int .u64 jd) := H1.cell 0
        have b1 : (u6.alloc (.cells #[.int .u64 jd, .int .i64 (posOf num), .string sv, .string mt, .int .i64 (posOf op)] 32)).cell? ⟨w.heap.size + 1, 1, none⟩ = some (.int .i64 num) := H1.cell 1
        have b2 : (u6.alloc (.cells #[.int .u64 jd, .int .i64 (posOf num), .string sv, .string mt, .int .i64 (posOf op)] 32)).cell? ⟨w.heap.size + 1, 2, none⟩ = some (.string sv) := H1.cell 2
        have b3 : (u6.alloc (.cells #[.int .u64 jd, .int .i64 (posOf num), .string sv, .string mt, .int .i64 (posOf op)] 32)).cell? ⟨w.heap.size + 1, 3, none⟩ = some (.string mt) := H1.cell 3
        have b4 : (u6.alloc (.cells #[.int .u64 jd, .int .i64 (posOf num), .string sv, .string mt, .int .i64 (posOf op)] 32)).cell? ⟨w.heap.size + 1, 4, none⟩ = some (.int .i64 op) := H1.cell 4
        have G2 := Whole.new u6 32 #[.int .u64 jd, .int .i64 (posOf num), .string sv, .string mt, .int .i64 (posOf op)]
        have x0 : (u6.alloc (.cells #[.int .u64 jd, .int .i64 (posOf num), .string sv, .string mt, .int .i64 (posOf op)] 32)).cell? ⟨u6.heap.size, 0, none⟩ = some (.int .u64 jd) := G2.cell 0
        have x1 : (u6.alloc (.cells #[.int .u64 jd, .int .i64 (posOf num), .string sv, .string mt, .int .i64 (posOf op)] 32)).cell? ⟨u6.heap.size, 1, none⟩ = some (.int .i64 (posOf num)) := G2.cell 1
        have x2 : (u6.alloc (.cells #[.int .u64 jd, .int .i64 (posOf num), .string sv, .string mt, .int .i64 (posOf op)] 32)).cell? ⟨u6.heap.size, 2, none⟩ = some (.string sv) := G2.cell 2
        have x3 : (u6.alloc (.cells #[.int .u64 jd, .int .i64 (posOf num), .string sv, .string mt, .int .i64 (posOf op)] 32)).cell? ⟨u6.heap.size, 3, none⟩ = some (.string mt) := G2.cell 3
        have x4 : (u6.alloc (.cells #[.int .u64 jd, .int .i64 (posOf num), .string sv, .string mt, .int .i64 (posOf op)] 32)).cell? ⟨u6.heap.size, 4, none⟩ = some (.int .i64 (posOf op)) := G2.cell 4
        clear G2
        go_wp2_with fail
        refine (K7.out _).mono ?_
        rintro e' u7 ⟨rfl, k7⟩
        clear a0 b0 b1 b2 b3 b4 x0 x1 x2 x3 x4
        go_wp2_with fail
        refine (K8.out _).mono ?_
        rintro e' u8 ⟨rfl, k8⟩
        have I0 := k8.whole (k7.whole H0 (by simp)) (by simp)
        have I1 := k8.whole (k7.whole H1 (by simp)) (by simp)
        have b0 : u8.cell? ⟨w.heap.size + 1, 0, none⟩ = some (.int .u64 jd) := I1.cell 0
        go_wp2_with fail
        refine (K9.out _).mono ?_
        rintro e' u9 ⟨rfl, k9⟩
        clear b0
        go_wp2_with fail
        refine (K10.out _).mono ?_
        rintro e' u10 ⟨rfl, k10⟩
        have a0 : u10.cell? ⟨w.heap.size, 0, none⟩ = some (.int .u64 id) := (k10.whole (k9.whole I0 (by simp)) (by simp)).cell 0
        have b0 : u10.cell? ⟨w.heap.size + 1, 0, none⟩ = some (.int .u64 jd) := (k10.whole (k9.whole I1 (by simp)) (by simp)).cell 0
        have t4 := (((t3.nil_trans k7).nil_trans k8).nil_trans k9).nil_trans k10
        clear t3 k7 k8 k9 k10 H0 H1 I0 I1
        go_wp2_with fail
        refine (awake34 _).mono ?_
        rintro e' u11 ⟨rfl, k11⟩
        go_wp2_with fail
        go_ret
        exact ⟨rfl, t4.nil_trans k11⟩
      · have K6 := Aside.mk (fun w => takeBind_calls V sV (p2.2 (fun h => q3 ⟨hU2.2 h.1, hO2.2 h.2.1, h.2.2⟩)) w)
        have q4 : ¬ num ≤ 1048576 ∨ (num ≤ 1048576 ∧ ¬ op ≤ 1048576) ∨ (num ≤ 1048576 ∧ op ≤ 1048576 ∧ ¬ sv.size ≤ 16) ∨ (num ≤ 1048576 ∧ op ≤ 1048576 ∧ sv.size ≤ 16 ∧ ¬ mt.size ≤ 16) := by omega
        clear p2 hU2 hO2 sV q3 mU mO
        rcases q4 with c1 | ⟨c1, c2⟩ | ⟨c1, c2, c3⟩ | ⟨c1, c2, c3, c4⟩
        all_goals
          go_enter Try.func20, Try.ntmps20
          go_wp2_with fail
          refine (K1.out _).mono ?_
          rintro e' u1 ⟨rfl, k1⟩
          go_wp2_with fail
          refine (K2.out _).mono ?_
          rintro e' u2 ⟨rfl, k2⟩
          go_wp2_with fail
          refine (K3.out _).mono ?_
          rintro e' u3 ⟨rfl, k3⟩
          have t1 := ((hk0.nil_trans k1).nil_trans k2).nil_trans k3
          have G0 := (k3.whole (k2.whole (k1.whole hw0' (by simp)) (by simp)) (by simp)).alloc (.cells #[.int .u64 0, .int .i64 0, .int .i64 0, .string ⟨#[]⟩] 28)
          have G1 := (k3.whole (k2.whole (k1.whole hw1 (by simp)) (by simp)) (by simp)).alloc (.cells #[.int .u64 0, .int .i64 0, .int .i64 0, .string ⟨#[]⟩] 28)
          have t2 := t1.alloc (.cells #[.int .u64 0, .int .i64 0, .int .i64 0, .string ⟨#[]⟩] 28)
          clear k1 k2 k3 t1
          have a0 : (u3.alloc (.cells #[.int .u64 0, .int .i64 0, .int .i64 0, .string ⟨#[]⟩] 28)).cell? ⟨w.heap.size, 0, none⟩ = some (.int .u64 id) := G0.cell 0
          have a1 : (u3.alloc (.cells #[.int .u64 0, .int .i64 0, .int .i64 0, .string ⟨#[]⟩] 28)).cell? ⟨w.heap.size, 1, none⟩ = some (.int .i64 wt) := G0.cell 1
          have a2 : (u3.alloc (.cells #[.int .u64 0, .int .i64 0, .int .i64 0, .string ⟨#[]⟩] 28)).cell? ⟨w.heap.size, 2, none⟩ = some (.int .i64 nm) := G0.cell 2
          have a3 : (u3.alloc (.cells #[.int .u64 0, .int .i64 0, .int .i64 0, .string ⟨#[]⟩] 28)).cell? ⟨w.heap.size, 3, none⟩ = some (.string sa) := G0.cell 3
          have b0 : (u3.alloc (.cells #[.int .u64 0, .int .i64 0, .int .i64 0, .string ⟨#[]⟩] 28)).cell? ⟨w.heap.size + 1, 0, none⟩ = some (.int .u64 jd) := G1.cell 0
          have b1 : (u3.alloc (.cells #[.int .u64 0, .int .i64 0, .int .i64 0, .string ⟨#[]⟩] 28)).cell? ⟨w.heap.size + 1, 1, none⟩ = some (.int .i64 num) := G1.cell 1
          have b2 : (u3.alloc (.cells #[.int .u64 0, .int .i64 0, .int .i64 0, .string ⟨#[]⟩] 28)).cell? ⟨w.heap.size + 1, 2, none⟩ = some (.string sv) := G1.cell 2
          have b3 : (u3.alloc (.cells #[.int .u64 0, .int .i64 0, .int .i64 0, .string ⟨#[]⟩] 28)).cell? ⟨w.heap.size + 1, 3, none⟩ = some (.string mt) := G1.cell 3
          have b4 : (u3.alloc (.cells #[.int .u64 0, .int .i64 0, .int .i64 0, .string ⟨#[]⟩] 28)).cell? ⟨w.heap.size + 1, 4, none⟩ = some (.int .i64 op) := G1.cell 4
          go_wp2_with fail
          refine (K4.out _).mono ?_
          rintro e' u4 ⟨rfl, k4⟩
          clear a0 a1 a2 a3 b0 b1 b2 b3 b4
          go_wp2_with fail
          refine (K5.out _).mono ?_
          rintro e' u5 ⟨rfl, k5⟩
          go_wp2_with fail
          refine (K6.out _).mono ?_
          rintro e' u6 ⟨rfl, k6⟩
          have H0 := (k6.whole (k5.whole (k4.whole G0 (by simp)) (by simp)) (by simp)).alloc (.cells #[.int .u64 0, .int .i64 0, .string ⟨#[]⟩, .string ⟨#[]⟩, .int .i64 0] 32)
          have H1 := (k6.whole (k5.whole (k4.whole G1 (by simp)) (by simp)) (by simp)).alloc (.cells #[.int .u64 0, .int .i64 0, .string ⟨#[]⟩, .string ⟨#[]⟩, .int .i64 0] 32)
          have t3 := (((t2.nil_trans k4).nil_trans k5).nil_trans k6).alloc (.cells #[.int .u64 0, .int .i64 0, .string ⟨#[]⟩, .string ⟨#[]⟩, .int .i64 0] 32)
          clear k4 k5 k6 t2 G0 G1
          have a0 : (u6.alloc (.cells #[.int .u64 0, .int .i64 0, .string ⟨#[]⟩, .string ⟨#[]⟩, .int .i64 0] 32)).cell? ⟨w.heap.size, 0, none⟩ = some (.int .u64 id) := H0.cell 0
          have b0 : (u6.alloc (.cells #[.int .u64 0, .int .i64 0, .string ⟨#[]⟩, .string ⟨#[]⟩, .int .i64 0] 32)).cell? ⟨w.heap.size + 1, 0, none⟩ = some (.int .u64 jd) := H1.cell 0
          have b1 : (u6.alloc (.cells #[.int .u64 0, .int .i64 0, .string ⟨#[]⟩, .string ⟨#[]⟩, .int .i64 0] 32)).cell? ⟨w.heap.size + 1, 1, none⟩ = some (.int .i64 num) := H1.cell 1
          have b2 : (u6.alloc (.cells #[.int .u64 0, .int .i64 0, .string ⟨#[]⟩, .string ⟨#[]⟩, .int .i64 0] 32)).cell? ⟨w.heap.size + 1, 2, none⟩ = some (.string sv) := H1.cell 2
          have b3 : (u6.alloc (.cells #[.int .u64 0, .int .i64 0, .string ⟨#[]⟩, .string ⟨#[]⟩, .int .i64 0] 32)).cell? ⟨w.heap.size + 1, 3, none⟩ = some (.string mt) := H1.cell 3
          have b4 : (u6.alloc (.cells #[.int .u64 0, .int .i64 0, .string ⟨#[]⟩, .string ⟨#[]⟩, .int .i64 0] 32)).cell? ⟨w.heap.size + 1, 4, none⟩ = some (.int .i64 op) := H1.cell 4
          go_wp2_with fail
          refine (K7.out _).mono ?_
          rintro e' u7 ⟨rfl, k7⟩
          clear a0 b0 b1 b2 b3 b4
          go_wp2_with fail
          refine (K8.out _).mono ?_
          rintro e' u8 ⟨rfl, k8⟩
          have I0 := k8.whole (k7.whole H0 (by simp)) (by simp)
          have I1 := k8.whole (k7.whole H1 (by simp)) (by simp)
          have b0 : u8.cell? ⟨w.heap.size + 1, 0, none⟩ = some (.int .u64 jd) := I1.cell 0
          go_wp2_with fail
          refine (K9.out _).mono ?_
          rintro e' u9 ⟨rfl, k9⟩
          clear b0
          go_wp2_with fail
          refine (K10.out _).mono ?_
          rintro e' u10 ⟨rfl, k10⟩
          have a0 : u10.cell? ⟨w.heap.size, 0, none⟩ = some (.int .u64 id) := (k10.whole (k9.whole I0 (by simp)) (by simp)).cell 0
          have b0 : u10.cell? ⟨w.heap.size + 1, 0, none⟩ = some (.int .u64 jd) := (k10.whole (k9.whole I1 (by simp)) (by simp)).cell 0
          have t4 := (((t3.nil_trans k7).nil_trans k8).nil_trans k9).nil_trans k10
          clear t3 k7 k8 k9 k10 H0 H1 I0 I1
          go_wp2_with fail
          refine (awake34 _).mono ?_
          rintro e' u11 ⟨rfl, k11⟩
          go_wp2_with fail
          go_ret
          exact ⟨rfl, t4.nil_trans k11⟩

end Go.Proofs.Ythcjcgagbpfkpaa

/- The Builder that the call has made. -/
import Derived.Test.YthcjcgagbpfkpaaRound
import Derived.Lib.Builder
import Derived.Lib.AppendStr
import Derived.Lib.UnsafeStr
import Derived.Laws.Externs
import Derived.OwnWalk
namespace Go.Proofs.Ythcjcgagbpfkpaa
set_option linter.unusedVariables false
set_option linter.unusedSimpArgs false
open Go.RowKit

theorem info5c : (Try.prog.info? 5).map (fun i => (i.zero, i.size, i.bytes)) = some (some (.int .u8 0), 1, 1) := by kernel_rfl
theorem size153 : (Try.prog.info? 153).map (·.size) = some 2 := by kernel_rfl
theorem lies153 : liesAt Try.prog Try.prog.depth 153 (2 / Try.prog.cellsOf 153) 0 153 1 = true := by kernel_rfl
theorem cells5 : Try.prog.cellsOf 5 = 1 := by kernel_rfl

theorem Keeps.of_below' {L : List Nat} {w0 w w' : World} (h : Keeps L w0 w) (k : Below w0.heap.size w w') : Keeps L w0 w' :=
  ⟨k.os.trans h.os, k.tape.trans h.tape, k.output.trans h.output, Nat.le_trans h.size k.size, fun i hi hn => (k.block i hi).trans (h.block i hi hn)⟩

theorem grownBy_set (w : World) (b j : Nat) (u : Value) : w.grownBy (w.setCell ⟨b, j, none⟩ u) (some b) :=
  ⟨rfl, rfl, rfl, by simp [World.setCell], fun k _ hk => Below.heap_setCell _ _ _ _ (fun e => hk (congrArg some e))⟩

set_option maxHeartbeats 1000000 in
set_option maxRecDepth 100000 in
theorem copyCheck_used (b : Nat) (v : Value) (w : World) (hW : Whole w b 153 #[.pointer (some ⟨b, 0, none⟩), v]) :
    Calls Try.prog 111 #[.pointer (some ⟨b, 0, none⟩)] w fun e w' => e = .returned (.tuple #[]) ∧ w = w' := by
  obtain ⟨j, hj, _⟩ := Option.map_eq_some_iff.1 size153
  have h0 : w.cell? ⟨b, 0, none⟩ = some (.pointer (some ⟨b, 0, none⟩)) := hW.cell 0
  have HJ := Aside.mk hj
  clear hj hW
  go_enter Try.func111, Try.ntmps111
  go_wp2_with fail
  rw [Lib.run_neq_ptr_same w _ Try.underlying150 HJ.out]
  go_wp2
  go_end0
  exact ⟨rfl, rfl⟩

set_option maxHeartbeats 1000000 in
set_option maxRecDepth 100000 in
theorem copyCheck_fresh (b : Nat) (v : Value) (w : World) (hW : Whole w b 153 #[.pointer none, v]) :
    Calls Try.prog 111 #[.pointer (some ⟨b, 0, none⟩)] w fun e w' => e = .returned (.tuple #[]) ∧ w.setCell ⟨b, 0, none⟩ (.pointer (some ⟨b, 0, none⟩)) = w' := by
  obtain ⟨j, hj, hjs⟩ := Option.map_eq_some_iff.1 size153
  have h0 : w.cell? ⟨b, 0, none⟩ = some (.pointer none) := hW.cell 0
  have hfz : w.frozen? ⟨b, 0, none⟩ = false := hW.frozen 0
  have HJ := Aside.mk hj
  have HJS := Aside.mk hjs
  have HSH : Aside (w.shape? b = some (153, 2)) := ⟨by have hW' : w.heap[b]? = _ := hW; simp [World.shape?, hW']⟩
  clear hj hjs hW
  go_enter Try.func111, Try.ntmps111
  go_wp2_with fail
  rw [Lib.run_to_unsafe w ⟨b, 0, none⟩ Try.underlying150 Try.underlying177 HJ.out (by rw [HJS.out]; decide) HSH.out (Nat.zero_lt_succ 1)]
  simp only [Result.andThen]
  rw [Oper.upon_value]
  go_wp2
  rw [run_callFunc_extern Try.func113 (by kernel_rfl) (by kernel_rfl) (by kernel_rfl) (e := Extern.AbiNoEscape.same) (by kernel_rfl)]
  rw [Lib.run_noEscape]
  simp only [Result.andThen]
  rw [Oper.upon_value]
  go_wp2
  rw [Lib.run_from_unsafe w ⟨b, 0, none⟩ Try.underlying177 Try.underlying150 HJ.out HSH.out lies153]
  simp only [Result.andThen]
  rw [Oper.upon_value]
  go_wp2
  go_end0
  exact ⟨rfl, rfl⟩

theorem copyCheck_calls (b : Nat) (p v : Value) (hp : p = .pointer none ∨ p = .pointer (some ⟨b, 0, none⟩)) (w : World) (hW : Whole w b 153 #[p, v]) :
    Calls Try.prog 111 #[.pointer (some ⟨b, 0, none⟩)] w fun e w' => e = .returned (.tuple #[]) ∧ Whole w' b 153 #[.pointer (some ⟨b, 0, none⟩), v] ∧ Keeps [b] w w' ∧ w.grownBy w' (some b) := by
  rcases hp with rfl | rfl
  · refine (copyCheck_fresh b v w hW).mono ?_
    rintro e w' ⟨rfl, rfl⟩
    exact ⟨rfl, hW.set_ 0 _, (Keeps.refl [b] w).setCell (.inl (by simp)) _, grownBy_set _ _ _ _⟩
  · refine (copyCheck_used b v w hW).mono ?_
    rintro e w' ⟨rfl, rfl⟩
    exact ⟨rfl, hW, Keeps.refl _ _, ⟨rfl, rfl, rfl, Nat.le_refl _, fun _ _ _ => rfl⟩⟩

theorem own_not {w : World} {B b : Nat} (hb : b < B) {v : Value} {n : Nat} {xs : List Value} (h : w.ownsRow B 5 1 v n xs) : v.ownBlock ≠ some b := by
  rcases h.2 with ⟨rfl, _⟩ | ⟨g, cap, cur, rfl, hg, _⟩
  · simp [Value.ownBlock]
  · intro e
    have : g = b := by simpa [Value.ownBlock] using e
    omega

set_option maxHeartbeats 4000000 in
set_option maxRecDepth 100000 in
theorem writeString_calls (b : Nat) (p v : Value) (hp : p = .pointer none ∨ p = .pointer (some ⟨b, 0, none⟩)) (bs : List Value) (s : ByteArray) (w0 w : World) (hb : b < w0.heap.size)
    (hW : Whole w b 153 #[p, v]) (hown : w.ownsRow w0.heap.size 5 1 v bs.length bs) (hk : Keeps [b] w0 w) (hlen : bs.length + s.size ≤ 1000000) :
    Calls Try.prog 97 #[.pointer (some ⟨b, 0, none⟩), .string s] w fun e w' => ∃ v', e = .returned (.tuple #[.int .i64 s.size, .nilIface]) ∧
      Whole w' b 153 #[.pointer (some ⟨b, 0, none⟩), v'] ∧ w'.ownsRow w0.heap.size 5 1 v' (bs ++ Lib.strCells s).length (bs ++ Lib.strCells s) ∧ Keeps [b] w0 w' := by
  obtain ⟨i0, hi, hz0, hz1, hz2⟩ := info_parts info5c
  have hs1 : s.size ≤ 1000000 := by omega
  have CC := Aside.mk (copyCheck_calls b p v hp w hW)
  have HO := Aside.mk hown
  have HK := Aside.mk hk
  have HL := Aside.mk hlen
  have HB := Aside.mk hb
  have HNB := Aside.mk (own_not hb hown)
  clear hp hW hown hk hlen hb
  go_enter Try.func97, Try.ntmps97
  go_wp2_with fail
  refine CC.out.mono ?_
  rintro e w1 ⟨rfl, h1, k1, g1⟩
  have HO1 := Aside.mk (HO.out.kept g1 (.inr HNB.out))
  have HK1 := Aside.mk (HK.out.trans k1 (fun y hy => .inl hy))
  have H1 := Aside.mk h1
  have c0 : w1.cell? ⟨b, 0, none⟩ = some (.pointer (some ⟨b, 0, none⟩)) := h1.cell 0
  have c1 : w1.cell? ⟨b, 1, none⟩ = some v := h1.cell 1
  clear h1 k1 g1 CC HO HK
  go_wp2_with (at_builtin; refine Lib.wpList_append_own_string _ rfl _ _ 151 9 rfl w0.heap.size 5 i0 Try.underlying151 Try.underlying9 hi hz0 hz1 hz2 _ _ _ rfl HO1.out s rfl ?c3 ?c4 ?c5 ?_)
  case c3 => have := HL.out; unfold maxLen; omega
  case c4 => have := HL.out; omega
  case c5 => exact HK1.out.size
  intro v' w2 hown' hgrow _
  have hNB := HNB.out
  have hb2 : Whole w2 b 153 #[.pointer (some ⟨b, 0, none⟩), v] := (hgrow.block b H1.out.lt (fun e => hNB e.symm)).trans H1.out
  have d0 : w2.cell? ⟨b, 0, none⟩ = some (.pointer (some ⟨b, 0, none⟩)) := hb2.cell 0
  have d1 : w2.cell? ⟨b, 1, none⟩ = some v := hb2.cell 1
  have f1 : w2.frozen? ⟨b, 1, none⟩ = false := hb2.frozen 1
  have HK2 : Aside (Keeps [b] w0 w2) := ⟨HK1.out.grown hgrow (fun k hk => .inr (HO1.out.lt k hk).1)⟩
  have HO2 := Aside.mk hown'
  have H2 := Aside.mk hb2
  have HN2 := Aside.mk (own_not HB.out hown')
  clear hown' hgrow hb2 hNB c0 c1
  obtain ⟨ao, n', cap, rfl⟩ : ∃ ao n' cap, v' = .slice ao n' cap := by
    rcases HO2.out.2 with ⟨hv, _⟩ | ⟨g, cap, cur, hv, _⟩
    · exact ⟨_, _, _, hv⟩
    · exact ⟨_, _, _, hv⟩
  go_wp2
  go_ret2
  refine ⟨_, rfl, H2.out.set_ 1 _, ?_, HK2.out.setCell (.inl (by simp)) _⟩
  rw [List.length_append, Lib.strCells_length]
  exact HO2.out.kept (grownBy_set _ _ _ _) (.inr HN2.out)

set_option maxHeartbeats 4000000 in
set_option maxRecDepth 100000 in
theorem bString_calls (b : Nat) (p v : Value) (l : List UInt8) (h0 : l ≠ []) (w0 w : World) (hW : Whole w b 153 #[p, v]) (hown : w.ownsRow w0.heap.size 5 1 v l.length (Lib.byteCells l)) (hk : Keeps [b] w0 w) :
    Calls Try.prog 98 #[.pointer (some ⟨b, 0, none⟩)] w fun e w' => e = .returned (.string ⟨l.toArray⟩) ∧ Keeps [b] w0 w' := by
  have hl0 : l.length ≠ 0 := by simpa using h0
  obtain ⟨g, cap, cur, rfl, hbg, hg, hnc, hcm, hcs, htake⟩ : ∃ g cap cur, v = .slice (some ⟨g, 0, none⟩) l.length cap ∧ w0.heap.size ≤ g ∧ w.heap[g]? = some (.cells cur 5 (0, 0)) ∧ l.length ≤ cap ∧ cap ≤ maxLen ∧ cur.size = cap * 1 ∧ cur.toList.take (l.length * 1) = Lib.byteCells l := by
    rcases hown.2 with ⟨_, hz⟩ | ⟨g, cap, cur, hv, r⟩
    · exact absurd hz hl0
    · exact ⟨g, cap, cur, hv, r⟩
  have c1 : w.drew.cell? ⟨b, 1, none⟩ = some (.slice (some ⟨g, 0, none⟩) l.length cap) := hW.cell 1
  have hSD : (Builtin.unsafeSliceData_ #[151] 174 #[.slice (some ⟨g, 0, none⟩) l.length cap]).run Try.prog w.drew = .ok (.pointer (some ⟨g, 0, none⟩)) w.drew :=
    Lib.run_unsafeSliceData_row _ _ _ _ _ _ (by omega)
  have hUS : (Builtin.unsafeString_ #[174, 3] 9 #[.pointer (some ⟨g, 0, none⟩), .int .i64 l.length]).run Try.prog w.drew = .ok (.string ⟨l.toArray⟩) (w.drew.freeze ⟨g, 0, none⟩ l.length) := by
    refine Lib.run_unsafeString_row w.drew 174 3 9 5 Try.underlying174 cells5 g cur.size (by have hg' : w.drew.heap[g]? = some (.cells cur 5 (0, 0)) := hg; simp [World.shape?, hg']) l h0 (by omega) (by unfold maxLen at hcm; omega) ?_
    intro j x hx
    exact hown.cells (g := g) rfl j (.int .u8 x.toNat) (by simp [Lib.byteCells, hx])
  have HBG := Aside.mk hbg
  have HK := Aside.mk hk
  clear hW hown hk hbg hg hnc hcm hcs htake h0 hl0
  go_enter Try.func98, Try.ntmps98
  go_wp2_with fail
  refine wp_region_still_tail 10 (by kernel_rfl) (by kernel_rfl) (Reads.out ?_)
  simp only [List.take_succ_cons, List.take_zero, List.drop_succ_cons, List.drop_zero]
  iterate 10 (refine Reads.want rfl (fun K hK => ?_); go_simp; refine hK.out _ ?_; clear hK K)
  refine Reads.nil ?_
  change wpList _ _ _ _ _ w.drew
  go_wp2
  go_ret
  exact ⟨rfl, HK.out.of_below' (Lib.below_freeze (Below.drew (Below.refl _ w)) (p := ⟨g, 0, none⟩) HBG.out _)⟩
end Go.Proofs.Ythcjcgagbpfkpaa

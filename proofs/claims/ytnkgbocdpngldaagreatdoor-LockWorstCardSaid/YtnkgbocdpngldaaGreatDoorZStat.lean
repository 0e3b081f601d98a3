/-
  A state as a status: status of package lock.
-/
import Derived.Test.YtnkgbocdpngldaaGreatDoorZCnt
import Derived.Test.YtnkgbocdpngldaaGreatDoorZReg
set_option linter.unusedVariables false
set_option linter.unusedSimpArgs false
namespace Go.Proofs.YtnkgbocdpngldaaGreatDoor
open Go.RowKit Dc Dg

def atL (n : Nat) (x : St) : List Int := [x.a0, x.a1, x.a2].take n
def failL (n : Nat) (x : St) : List Int := [x.f0, x.f1, x.f2].take n
/-- a status, in rows of its own -/
def StatR (B n : Nat) (w : World) (v : Value) (x : St) : Prop := ∃ u1 u2, v = .agg #[u1, u2] ∧ IntR B w u1 (atL n x) ∧ IntR B w u2 (failL n x)
theorem IntR.setOld {n : Nat} {w : World} {v : Value} {l : List Int} (h : IntR n w v l) {b i : Nat} (u : Value) (hb : b < n) : IntR n (w.setCell ⟨b, i, none⟩ u) v l :=
  h.same (fun k hk => by have := (row_type h hk).1; exact heap_setCell_other _ _ _ _ (by show k ≠ b; omega))
theorem IntR.below {n : Nat} {w w' : World} {v : Value} {l : List Int} (h : IntR n w v l) (hb : Below w.heap.size w w') : IntR n w' v l :=
  h.same (fun k hk => hb.block k (row_type h hk).2.1)
theorem IntR.slice {n : Nat} {w : World} {v : Value} {l : List Int} (h : IntR n w v l) : ∃ a c, v = .slice a l.length c := by
  rcases h.2 with ⟨rfl, hn⟩ | ⟨g, cap, cur, rfl, _⟩
  · exact ⟨none, 0, by rw [hn]⟩
  · exact ⟨_, _, rfl⟩
theorem cloneAt {w : World} {b : Nat} {x : St} (hS : StP w b x) (n : Nat) (hn : n ≤ 3) : Calls Tryz.prog 85 #[.slice (some ⟨b, 0, none⟩) n 3] w fun e w' => ∃ v', e = .returned v' ∧ IntR w.heap.size w' v' (atL n x) ∧ Below w.heap.size w w' := by
  refine (Tryz.slices_Clone_int b 0 n 3 [x.a0, x.a1, x.a2] w (by simp; omega) (by omega) (fun j hj => ?_)).mono ?_
  · rw [hS.cell, Nat.zero_add]
    simp at hj
    match j, hj with
    | 0, _ => rfl
    | 1, _ => rfl
    | 2, _ => rfl
  · rintro e w' ⟨v', rfl, h1, _, h3⟩
    refine ⟨v', rfl, ?_, h3⟩
    have : (atL n x).length = n := by unfold atL; simp; omega
    unfold IntR
    rw [this]
    exact h1
theorem cloneFail {w : World} {b : Nat} {x : St} (hS : StP w b x) (n : Nat) (hn : n ≤ 3) : Calls Tryz.prog 85 #[.slice (some ⟨b, 3, none⟩) n 3] w fun e w' => ∃ v', e = .returned v' ∧ IntR w.heap.size w' v' (failL n x) ∧ Below w.heap.size w w' := by
  refine (Tryz.slices_Clone_int b 3 n 3 [x.f0, x.f1, x.f2] w (by simp; omega) (by omega) (fun j hj => ?_)).mono ?_
  · rw [hS.cell]
    simp at hj
    match j, hj with
    | 0, _ => rfl
    | 1, _ => rfl
    | 2, _ => rfl
  · rintro e w' ⟨v', rfl, h1, _, h3⟩
    refine ⟨v', rfl, ?_, h3⟩
    have : (failL n x).length = n := by unfold failL; simp; omega
    unfold IntR
    rw [this]
    exact h1
theorem elemPl : Tryz.prog.elem 85 = 3 := by kernel_rfl
theorem lenPl : Tryz.prog.arrayLen 85 = 3 := by kernel_rfl
theorem sizeInt (w : World) : (sizeOf 3).run Tryz.prog w = .ok 1 w := by kernel_rfl
theorem run_slPlace (b o n : Nat) (hn : n ≤ 3) (w : World) : (Instr.sliceAt 85 (.pointer (some ⟨b, o, none⟩)) none (some (.int .i64 n)) none).run Tryz.prog w = .ok (.slice (some ⟨b, o, none⟩) n 3) w := by
  rw [run_sliceAt_array_h w 85 ⟨b, o, none⟩ (by rw [elemPl, lenPl]; exact undL) .i64 n (by omega) (by rw [lenPl]; omega), elemPl, lenPl, sizeInt]
  unfold slicedAt
  simp [Addr.add]
set_option maxRecDepth 100000 in
set_option maxHeartbeats 4000000 in
theorem statusN (gs : List Gd) (p : Option Addr) (c : Nat) (m : Nat) (x : St) (w : World) (hm : w.cell? ⟨m, 0, none⟩ = some (.slice p gs.length c)) (hn : gs.length ≤ 3) :
    Calls Tryz.prog 57 #[.pointer (some ⟨m, 0, none⟩), .agg #[.int .i64 x.a0, .int .i64 x.a1, .int .i64 x.a2, .int .i64 x.f0, .int .i64 x.f1, .int .i64 x.f2]] w (fun e w' => ∃ v, e = .returned v ∧ StatR w.heap.size gs.length w' v x ∧ Below w.heap.size w w') := by
  have hml : m < w.heap.size := block_lt_of_cell hm
  have k0 : StP ((w.alloc (.cells #[.int .i64 x.a0, .int .i64 x.a1, .int .i64 x.a2, .int .i64 x.f0, .int .i64 x.f1, .int .i64 x.f2] 87)).alloc (.cells #[.slice none 0 0, .slice none 0 0] 41)) w.heap.size x := (StP.new w x).below ((Below.refl _ _).alloc (Nat.le_refl _) _)
  have k1 : ((w.alloc (.cells #[.int .i64 x.a0, .int .i64 x.a1, .int .i64 x.a2, .int .i64 x.f0, .int .i64 x.f1, .int .i64 x.f2] 87)).alloc (.cells #[.slice none 0 0, .slice none 0 0] 41)).heap[w.heap.size + 1]? = some (.cells #[.slice none 0 0, .slice none 0 0] 41 (0, 0)) := by
    have := heap_alloc_new (w.alloc (.cells #[.int .i64 x.a0, .int .i64 x.a1, .int .i64 x.a2, .int .i64 x.f0, .int .i64 x.f1, .int .i64 x.f2] 87)) (.cells #[.slice none 0 0, .slice none 0 0] 41)
    simpa using this
  have hbl : Below w.heap.size w ((w.alloc (.cells #[.int .i64 x.a0, .int .i64 x.a1, .int .i64 x.a2, .int .i64 x.f0, .int .i64 x.f1, .int .i64 x.f2] 87)).alloc (.cells #[.slice none 0 0, .slice none 0 0] 41)) := ((Below.refl _ _).alloc (Nat.le_refl _) _).alloc (by simp) _
  have hm2 := (hbl.cell (p := ⟨m, 0, none⟩) hml).trans hm
  go_enter Tryz.func57, Tryz.ntmps57
  go_upto_region 1 with fail
  generalize (w.alloc (.cells #[.int .i64 x.a0, .int .i64 x.a1, .int .i64 x.a2, .int .i64 x.f0, .int .i64 x.f1, .int .i64 x.f2] 87)).alloc (.cells #[.slice none 0 0, .slice none 0 0] 41) = w1 at *
  go_upto_region 2 with fail
  obtain ⟨n, hgn⟩ : ∃ n, n = gs.length := ⟨_, rfl⟩
  rw [← hgn] at hn hm2 ⊢
  have HGN := Lib.hid hgn
  clear hgn
  have hbd : Below w1.heap.size w1 w1.drew := (Below.refl _ _).drew
  have d0 := k0.below hbd
  have d1 := (hbd.block _ (row_lt k1)).trans k1
  have hb2 := hbl.trans (hbd.mono hbl.size)
  have hsl := fun o => run_slPlace w.heap.size o n hn
  refine wp_mono (wp_region_late (Q := onlyN _) (fun _ => True) (fun _ => false) (by kernel_rfl) ?_) (fun _ _ _ h => onlyN_le h)
  generalize w1.drew = w2 at *
  refine wpL_free (i := 0) (v := ?vv0) rfl (by kernel_rfl) (fun _ _ _ h => h) rfl ?hy0 ?rest0
  case hy0 => (intro wy; go_simp; try with_reducible rfl)
  try simp only [Act.put, List.setIfInBounds_toArray, List.set_cons_zero, List.set_cons_succ]
  refine wpL_free (i := 1) (v := ?vv1) rfl (by kernel_rfl) (fun _ _ _ h => h) rfl ?hy1 ?rest1
  case hy1 => (intro wy; go_simp; try with_reducible rfl)
  try simp only [Act.put, List.setIfInBounds_toArray, List.set_cons_zero, List.set_cons_succ]
  refine wpL_free (i := 2) (v := ?vv2) rfl (by kernel_rfl) (fun _ _ _ h => h) rfl ?hy2 ?rest2
  case hy2 => (intro wy; go_simp; try with_reducible rfl)
  try simp only [Act.put, List.setIfInBounds_toArray, List.set_cons_zero, List.set_cons_succ]
  refine wpL_free (i := 4) (v := ?vv3) rfl (by kernel_rfl) (fun _ _ _ h => h) rfl ?hy3 ?rest3
  case hy3 => (intro wy; go_simp; try with_reducible rfl)
  try simp only [Act.put, List.setIfInBounds_toArray, List.set_cons_zero, List.set_cons_succ]
  refine wpL_free (i := 5) (v := ?vv4) rfl (by kernel_rfl) (fun _ _ _ h => h) rfl ?hy4 ?rest4
  case hy4 => (intro wy; go_simp; try with_reducible rfl)
  try simp only [Act.put, List.setIfInBounds_toArray, List.set_cons_zero, List.set_cons_succ]
  refine wpL_free (i := 6) (v := ?vv5) rfl (by kernel_rfl) (fun _ _ _ h => h) rfl ?hy5 ?rest5
  case hy5 => (intro wy; go_simp; try with_reducible rfl)
  try simp only [Act.put, List.setIfInBounds_toArray, List.set_cons_zero, List.set_cons_succ]
  refine wpL_one (i := 3) rfl (by kernel_rfl) rfl (fun K hK => ?_)
  go_simp
  refine (cloneAt d0 n hn).mono ?_
  rintro e w3 ⟨u1, rfl, hu1, hb3⟩
  obtain ⟨p1, c1, rfl⟩ := hu1.slice
  refine hK _ _ (fun _ _ => trivial) ?_
  clear hK K
  try simp only [Act.put, List.setIfInBounds_toArray, List.set_cons_zero, List.set_cons_succ]
  refine wpL_one (i := 7) rfl (by kernel_rfl) rfl (fun K hK => ?_)
  go_simp
  refine (cloneFail (d0.below hb3) n hn).mono ?_
  rintro e w4 ⟨u2, rfl, hu2, hb4⟩
  obtain ⟨p2, c2, rfl⟩ := hu2.slice
  refine hK _ _ (fun _ _ => trivial) ?_
  clear hK K
  try simp only [Act.put, List.setIfInBounds_toArray, List.set_cons_zero, List.set_cons_succ]
  refine wpL_free (i := 8) (v := ?vv8) rfl (by kernel_rfl) (fun _ _ _ h => h) rfl ?hy8 ?rest8
  case hy8 => (intro wy; go_simp; try with_reducible rfl)
  try simp only [Act.put, List.setIfInBounds_toArray, List.set_cons_zero, List.set_cons_succ]
  have d1' := (hb4.block _ (row_lt ((hb3.block _ (row_lt d1)).trans d1))).trans ((hb3.block _ (row_lt d1)).trans d1)
  have q0 := blk_cell d1' 0
  have q1 := blk_cell d1' 1
  have r0 := frozen_of_row w4 (w.heap.size + 1) 0 _ _ d1'
  have r1 := frozen_of_row w4 (w.heap.size + 1) 1 _ _ d1'
  refine wpL_one (i := 9) rfl (by kernel_rfl) rfl (fun K hK => ?_)
  go_simp
  refine hK _ _ (fun _ _ => trivial) ?_
  clear hK K
  have hz : w.heap.size + 1 < w2.heap.size := row_lt d1
  have e1 := heap_setCell_same w4 (w.heap.size + 1) 0 _ _ (Value.slice p1 (atL n x).length c1) d1'
  have e2 := heap_setCell_same _ (w.heap.size + 1) 1 _ _ (Value.slice p2 (failL n x).length c2) e1
  have t0 := blk_cell e2 0
  have t1 := blk_cell e2 1
  have hw4 : w2.heap.size ≤ w3.heap.size := hb3.size
  have hI1 : IntR w.heap.size ((w4.setCell ⟨w.heap.size + 1, 0, none⟩ (.slice p1 (atL n x).length c1)).setCell ⟨w.heap.size + 1, 1, none⟩ (.slice p2 (failL n x).length c2)) (.slice p1 (atL n x).length c1) (atL n x) := (((hu1.below hb4).setOld _ (by omega)).setOld _ (by omega)).base (by omega)
  have hI2 : IntR w.heap.size ((w4.setCell ⟨w.heap.size + 1, 0, none⟩ (.slice p1 (atL n x).length c1)).setCell ⟨w.heap.size + 1, 1, none⟩ (.slice p2 (failL n x).length c2)) (.slice p2 (failL n x).length c2) (failL n x) := ((hu2.setOld _ (by omega)).setOld _ (by omega)).base (by omega)
  have hB : Below w.heap.size w ((w4.setCell ⟨w.heap.size + 1, 0, none⟩ (.slice p1 (atL n x).length c1)).setCell ⟨w.heap.size + 1, 1, none⟩ (.slice p2 (failL n x).length c2)) := (((hb2.trans (hb3.mono hb2.size)).trans (hb4.mono (Nat.le_trans hb2.size hb3.size))).setCell (p := ⟨w.heap.size + 1, 0, none⟩) (by show w.heap.size ≤ w.heap.size + 1; omega) _).setCell (p := ⟨w.heap.size + 1, 1, none⟩) (by show w.heap.size ≤ w.heap.size + 1; omega) _
  generalize (w4.setCell ⟨w.heap.size + 1, 0, none⟩ (.slice p1 (atL n x).length c1)).setCell ⟨w.heap.size + 1, 1, none⟩ (.slice p2 (failL n x).length c2) = w5 at *
  try simp only [Act.put, List.getElem_toArray, List.getElem_cons_succ, List.getElem_cons_zero, List.setIfInBounds_toArray, List.set_cons_zero, List.set_cons_succ]
  refine wpL_done (by kernel_rfl) ?_ _
  simp only [onlyN]
  go_wp2_with fail
  try simp only [Exit.inBlock, Exit.then]
  have t0' : w5.cell? ⟨w.heap.size + 1, 0, none⟩ = some (Value.slice p1 (atL n x).length c1) := t0
  have t1' : w5.cell? ⟨w.heap.size + 1, 1, none⟩ = some (Value.slice p2 (failL n x).length c2) := t1
  refine bodyPost_ret (v := .agg #[.slice p1 (atL n x).length c1, .slice p2 (failL n x).length c2]) (by simp [results, Tryz.results57, go_sem, t0', t1']) rfl ?_
  rw [← HGN.out]
  exact ⟨_, rfl, ⟨_, _, rfl, hI1, hI2⟩, hB⟩
end Go.Proofs.YtnkgbocdpngldaaGreatDoor

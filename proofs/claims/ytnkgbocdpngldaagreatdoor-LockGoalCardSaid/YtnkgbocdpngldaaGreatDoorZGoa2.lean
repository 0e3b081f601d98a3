/-
  Climb of package lock.
-/
import Derived.Test.YtnkgbocdpngldaaGreatDoorZGoa1
set_option linter.unusedVariables false
set_option linter.unusedSimpArgs false
namespace Go.Proofs.YtnkgbocdpngldaaGreatDoor
open Go.RowKit Dc Dg

theorem BegQ.two {gs : List Gd} {p : Option Addr} {c : Nat} {al fl : List Int} {w w' : World} {e : Ending} (h : BegQ gs p c al fl w e w') :
    ∃ (pm : Option Addr) (y : St) (n : Int), e = .returned (.tuple #[.pointer pm, .agg #[.int .i64 y.a0, .int .i64 y.a1, .int .i64 y.a2, .int .i64 y.f0, .int .i64 y.f1, .int .i64 y.f2], .int .i64 n]) ∧
      ((n ≠ 0 ∧ BegE gs al fl n) ∨ (n = 0 ∧ sysS gs = true ∧ StOK gs al fl y ∧ ∃ (m : Nat) (vn vb : Value) (mb N s : Nat) (f : Nat × Nat → Option Value), pm = some ⟨m, 0, none⟩ ∧ MachP w' m gs p c vn vb mb N s f)) ∧ Below w.heap.size w w' := by
  obtain ⟨hb, ⟨n, hn, rfl⟩ | ⟨y, m, vn, vb, mb, N, s, f, hS, hk, hM, rfl⟩⟩ := h
  · refine ⟨_, St.zero, n, rfl, Or.inl ⟨?_, hn⟩, hb⟩
    rcases hn with ⟨_, rfl⟩ | ⟨_, rfl, _⟩ <;> decide
  · exact ⟨_, y, 0, rfl, Or.inr ⟨rfl, hS, hk, m, vn, vb, mb, N, s, f, rfl, hM⟩, hb⟩
/-- the way to the goals -/
def climbG (gs : List Gd) (y : St) : List Ev × Int := match searchS (machOf gs) y winS (goalS (machOf gs)) with | (some z, R) => (wayS R z, 0) | (none, _) => ([], 4)
/-- what Climb hands back -/
def ClimbQ (gs : List Gd) (al fl : List Int) (w : World) (e : Ending) (w' : World) : Prop :=
  Below w.heap.size w w' ∧ ((∃ n, n ≠ 0 ∧ BegE gs al fl n ∧ e = .returned (.tuple #[.slice none 0 0, .int .i64 n])) ∨
    (∃ y v, sysS gs = true ∧ StOK gs al fl y ∧ e = .returned (.tuple #[v, .int .i64 (climbG gs y).2]) ∧ EvR w.heap.size w' v (climbG gs y).1))
set_option maxRecDepth 100000 in
set_option maxHeartbeats 4000000 in
theorem climbN (gs : List Gd) (p : Option Addr) (c : Nat) (w : World) (v : Value) (al fl : List Int) (hP : SysP w p c gs) (hQ : StatQ w v al fl) :
    Calls Tryz.prog 22 #[.agg #[.slice p gs.length c], v] w (ClimbQ gs al fl w) := by
  obtain ⟨u1, u2, rfl, hI1, hI2⟩ := hQ.at_
  obtain ⟨p1, c1, rfl, -⟩ := hI1.at_
  obtain ⟨p2, c2, rfl, -⟩ := hI2.at_
  have hb1 : Below w.heap.size w ((w.alloc (.cells #[.slice p gs.length c] 24)).alloc (.cells #[.slice p1 al.length c1, .slice p2 fl.length c2] 41)) := ((Below.refl _ _).alloc (Nat.le_refl _) _).alloc (by simp) _
  have s0 : ((w.alloc (.cells #[.slice p gs.length c] 24)).alloc (.cells #[.slice p1 al.length c1, .slice p2 fl.length c2] 41)).heap[w.heap.size]? = some (.cells #[.slice p gs.length c] 24 (0, 0)) := (heap_alloc_old _ _ (by simp)).trans (heap_alloc_new _ _)
  have s1 : ((w.alloc (.cells #[.slice p gs.length c] 24)).alloc (.cells #[.slice p1 al.length c1, .slice p2 fl.length c2] 41)).heap[w.heap.size + 1]? = some (.cells #[.slice p1 al.length c1, .slice p2 fl.length c2] 41 (0, 0)) := by
    have := heap_alloc_new (w.alloc (.cells #[.slice p gs.length c] 24)) (.cells #[.slice p1 al.length c1, .slice p2 fl.length c2] 41)
    simpa using this
  have P1 := hP.below hb1
  have Q1 := hQ.below hb1
  have x0 := blk_cell s0 0
  have x1 := blk_cell s1 0
  have x2 := blk_cell s1 1
  go_enter Tryz.func22, Tryz.ntmps22
  go_upto_region 1 with fail
  generalize (w.alloc (.cells #[.slice p gs.length c] 24)).alloc (.cells #[.slice p1 al.length c1, .slice p2 fl.length c2] 41) = w1 at *
  refine wp_region_lit ?_
  refine wpList_plain rfl (fun K hK => ?_)
  go_simp
  refine hK _ _ ?_
  clear hK K
  try simp only [Act.put, List.getElem_toArray, List.getElem_cons_succ, List.getElem_cons_zero, List.setIfInBounds_toArray, List.set_cons_zero, List.set_cons_succ]
  refine wpList_plain rfl (fun K hK => ?_)
  go_simp
  refine hK _ _ ?_
  clear hK K
  try simp only [Act.put, List.getElem_toArray, List.getElem_cons_succ, List.getElem_cons_zero, List.setIfInBounds_toArray, List.set_cons_zero, List.set_cons_succ]
  refine wpList_plain rfl (fun K hK => ?_)
  go_simp
  refine (begunN gs p c w1 (.agg #[.slice p1 al.length c1, .slice p2 fl.length c2]) al fl P1 Q1).mono ?_
  intro e w2 hq
  obtain ⟨pm, y, n, rfl, hq, hb2⟩ := hq.two
  refine hK _ _ ?_
  clear hK K
  try simp only [Act.put, List.getElem_toArray, List.getElem_cons_succ, List.getElem_cons_zero, List.setIfInBounds_toArray, List.set_cons_zero, List.set_cons_succ]
  clear s0 s1 x0 x1 x2 P1 Q1
  have HB2 := hb1.trans (hb2.mono hb1.size)
  clear hb2 hb1
  refine wpList_plain rfl (fun K hK => ?_)
  go_simp
  refine hK _ _ ?_
  clear hK K
  try simp only [Act.put, List.getElem_toArray, List.getElem_cons_succ, List.getElem_cons_zero, List.setIfInBounds_toArray, List.set_cons_zero, List.set_cons_succ]
  refine wpList_plain rfl (fun K hK => ?_)
  go_simp
  refine hK _ _ ?_
  clear hK K
  try simp only [Act.put, List.getElem_toArray, List.getElem_cons_succ, List.getElem_cons_zero, List.setIfInBounds_toArray, List.set_cons_zero, List.set_cons_succ]
  refine wpList_plain rfl (fun K hK => ?_)
  go_simp
  refine hK _ _ ?_
  clear hK K
  try simp only [Act.put, List.getElem_toArray, List.getElem_cons_succ, List.getElem_cons_zero, List.setIfInBounds_toArray, List.set_cons_zero, List.set_cons_succ]
  refine wpList_plain rfl (fun K hK => ?_)
  go_simp
  refine hK _ _ ?_
  clear hK K
  try simp only [Act.put, List.getElem_toArray, List.getElem_cons_succ, List.getElem_cons_zero, List.setIfInBounds_toArray, List.set_cons_zero, List.set_cons_succ]
  have a1 := heap_alloc_new w2 (.cells #[.pointer none] 78)
  have hb3 : Below w2.heap.size w2 (w2.alloc (.cells #[.pointer none] 78)) := (Below.refl _ _).alloc (Nat.le_refl _) _
  refine wpList_plain rfl (fun K hK => ?_)
  go_simp
  refine hK _ _ ?_
  clear hK K
  try simp only [Act.put, List.getElem_toArray, List.getElem_cons_succ, List.getElem_cons_zero, List.setIfInBounds_toArray, List.set_cons_zero, List.set_cons_succ]
  generalize w2.alloc (.cells #[.pointer none] 78) = w3 at a1 hb3 ⊢
  have z0 : StP (w3.alloc (.cells #[.int .i64 0, .int .i64 0, .int .i64 0, .int .i64 0, .int .i64 0, .int .i64 0] 87)) w3.heap.size St.zero := StP.new w3 St.zero
  have hb4 : Below w3.heap.size w3 (w3.alloc (.cells #[.int .i64 0, .int .i64 0, .int .i64 0, .int .i64 0, .int .i64 0, .int .i64 0] 87)) := (Below.refl _ _).alloc (Nat.le_refl _) _
  refine wpList_plain rfl (fun K hK => ?_)
  go_simp
  refine hK _ _ ?_
  clear hK K
  try simp only [Act.put, List.getElem_toArray, List.getElem_cons_succ, List.getElem_cons_zero, List.setIfInBounds_toArray, List.set_cons_zero, List.set_cons_succ]
  generalize w3.alloc (.cells #[.int .i64 0, .int .i64 0, .int .i64 0, .int .i64 0, .int .i64 0, .int .i64 0] 87) = w4 at z0 hb4 ⊢
  have a2 := (hb4.block _ (row_lt a1)).trans a1
  have q0 := blk_cell a2 0
  have f0 := frozen_of_row w4 w2.heap.size 0 _ _ a2
  refine wpList_plain rfl (fun K hK => ?_)
  go_simp
  refine hK _ _ ?_
  clear hK K
  try simp only [Act.put, List.getElem_toArray, List.getElem_cons_succ, List.getElem_cons_zero, List.setIfInBounds_toArray, List.set_cons_zero, List.set_cons_succ]
  clear q0 f0
  have hlt3 : w2.heap.size < w3.heap.size := row_lt a1
  have a3 : (w4.setCell ⟨w2.heap.size, 0, none⟩ (.pointer pm)).heap[w2.heap.size]? = some (.cells #[.pointer pm] 78 (0, 0)) := heap_setCell_same w4 w2.heap.size 0 _ _ (.pointer pm) a2
  have z1 : StP (w4.setCell ⟨w2.heap.size, 0, none⟩ (.pointer pm)) w3.heap.size St.zero := by unfold StP; rw [Below.heap_setCell _ _ _ _ (by show w3.heap.size ≠ w2.heap.size; omega)]; exact z0
  have hb5 : Below w2.heap.size w2 (w4.setCell ⟨w2.heap.size, 0, none⟩ (.pointer pm)) := (hb3.trans (hb4.mono hb3.size)).setCell (p := ⟨w2.heap.size, 0, none⟩) (Nat.le_refl _) _
  generalize w4.setCell ⟨w2.heap.size, 0, none⟩ (.pointer pm) = w5 at a3 z1 hb5 ⊢
  have q0 := z1.cell 0; have q1 := z1.cell 1; have q2 := z1.cell 2; have q3 := z1.cell 3; have q4 := z1.cell 4; have q5 := z1.cell 5
  have f0 := z1.fr 0; have f1 := z1.fr 1; have f2 := z1.fr 2; have f3 := z1.fr 3; have f4 := z1.fr 4; have f5 := z1.fr 5
  refine wpList_plain rfl (fun K hK => ?_)
  go_simp
  refine hK _ _ ?_
  clear hK K q0 q1 q2 q3 q4 q5 f0 f1 f2 f3 f4 f5
  try simp only [Act.put, List.getElem_toArray, List.getElem_cons_succ, List.getElem_cons_zero, List.setIfInBounds_toArray, List.set_cons_zero, List.set_cons_succ]
  change wpList _ _ _ _ _ (putSt w5 w3.heap.size y)
  have hb6 : Below w2.heap.size w2 (putSt w5 w3.heap.size y) := hb5.trans (putSt_below (by omega))
  have SP := z1.put y
  have a4 : (putSt w5 w3.heap.size y).heap[w2.heap.size]? = some (.cells #[.pointer pm] 78 (0, 0)) := (putSt_other (by omega)).trans a3
  clear a1 a2 a3 z0 z1 hb3 hb4 hb5
  generalize putSt w5 w3.heap.size y = w6 at hb6 SP a4 ⊢
  have HB6 := HB2.trans (hb6.mono HB2.size)
  generalize w3.heap.size = sb at SP hlt3 ⊢
  rcases hq with ⟨hn0, hbe⟩ | ⟨rfl, hS, hok, m, vn, vb, mb, N, s, f, rfl, hM⟩
  · have hd : (n != 0) = true := by simp [hn0]
    have hEnd : Hid (ClimbQ gs al fl w (.returned (.tuple #[.slice none 0 0, .int .i64 n])) w6) := ⟨HB6, Or.inl ⟨n, hn0, hbe, rfl⟩⟩
    clear hn0 hbe SP a4
    go_wp2_with fail
    go_ret2
    exact hEnd.out
  · have M6 := hM.below hb6
    have c0 := SP.cell 0; have c1 := SP.cell 1; have c2 := SP.cell 2; have c3 := SP.cell 3; have c4 := SP.cell 4; have c5 := SP.cell 5
    have a5 := blk_cell a4 0
    clear SP hM hb6
    have HCG : Hid (climbG gs y = (match searchS (machOf gs) y winS (goalS (machOf gs)) with | (some z, R) => (wayS R z, 0) | (none, _) => ([], 4))) := rfl
    go_wp2_with fail
    refine (searchN gs p c vn vb mb N s f w6 m y M6 (fitM_of hS) hS hok.at_ 60 61 #[] #[.pointer (some ⟨w2.heap.size, 0, none⟩)] winS (goalS (machOf gs)) (run_enter Tryz.func60 (by kernel_rfl) (by decide)) (run_enter Tryz.func61 (by kernel_rfl) (by decide))
      (fun w' _ v _ => by rw [Array.append_empty]; exact winN v w') (fun w' hb' z hz => goalFnN gs p c vn vb mb N s f w' m w2.heap.size z (M6.below hb') hS hz (blk_cell ((hb'.block _ (row_lt a4)).trans a4) 0))).mono ?_
    rintro e w7 ⟨hb7, v7, mt, N7, s7, rfl, hT, hE, hmt⟩
    have hBz := HB6.trans (hb7.mono HB6.size)
    have hsz := HB6.size
    have hmg := HCG.out
    clear HCG
    revert hT hE hmg
    generalize searchS (machOf gs) y winS (goalS (machOf gs)) = res
    obtain ⟨r1, R⟩ := res
    intro hT hE hmg
    cases r1 with
    | none =>
      simp only at hmg
      have HMG := Lib.hid hmg
      clear hmg
      simp only [Option.isSome_none]
      go_wp2_with fail
      go_ret2
      exact ⟨hBz, Or.inr ⟨y, _, hS, hok, by rw [HMG.out]; rfl, by rw [HMG.out]; exact World.ownsRow_nil _ _ _ _⟩⟩
    | some z =>
      simp only at hmg
      have HMG := Lib.hid hmg
      clear hmg
      simp only [Option.isSome_some]
      go_wp2_with fail
      go_ret2
      exact ⟨hBz, Or.inr ⟨y, _, hS, hok, by rw [HMG.out]; rfl, by rw [HMG.out]; exact row_base hE hsz⟩⟩
end Go.Proofs.YtnkgbocdpngldaaGreatDoor

/-
  goals and Goals of package lock; what Climb is given.
-/
import Derived.Test.YtnkgbocdpngldaaGreatDoorZHel1
set_option linter.unusedVariables false
set_option linter.unusedSimpArgs false
namespace Go.Proofs.YtnkgbocdpngldaaGreatDoor
open Go.RowKit Dc Dg

/-- are all guards at goals? -/
def goalS (M : Mach) (x : St) : Bool := (List.range M.n).all fun g => decide (M.next g (x.a g).toNat < 0)
theorem goalS_no {M : Mach} {x : St} {g : Nat} (hg : g < M.n) (h : ¬ M.next g (x.a g).toNat < 0) : goalS M x = false := by
  unfold goalS
  rw [List.all_eq_false]
  exact ⟨g, List.mem_range.2 hg, by simpa using h⟩
theorem goalS_yes {M : Mach} {x : St} (h : ∀ g, g < M.n → M.next g (x.a g).toNat < 0) : goalS M x = true := by
  unfold goalS
  rw [List.all_eq_true]
  exact fun g hg => decide_eq_true (h g (List.mem_range.1 hg))
theorem PlaceP.new (w : World) (x : St) : PlaceP (w.alloc (.cells #[.int .i64 x.a0, .int .i64 x.a1, .int .i64 x.a2] 85)) w.heap.size x := ⟨by simp, alloc_cell w _ _ 0 _ rfl, alloc_cell w _ _ 1 _ rfl, alloc_cell w _ _ 2 _ rfl⟩
theorem PlaceP.a {w : World} {k g : Nat} {x : St} (h : PlaceP w k x) (hg : g < 3) : w.cell? ⟨k, g, none⟩ = some (.int .i64 (x.a g)) := by
  rcases lt3 hg with rfl | rfl | rfl
  · exact h.h0
  · exact h.h1
  · exact h.h2
set_option maxRecDepth 100000 in
set_option maxHeartbeats 4000000 in
theorem goalsN (gs : List Gd) (p : Option Addr) (c : Nat) (vn vb : Value) (mb N s : Nat) (f : Nat × Nat → Option Value) (w : World) (m : Nat) (x : St) (hP : MachP w m gs p c vn vb mb N s f) (hS : sysS gs = true) (hx : (machOf gs).At x) :
    Calls Tryz.prog 62 #[.pointer (some ⟨m, 0, none⟩), .agg #[.int .i64 x.a0, .int .i64 x.a1, .int .i64 x.a2]] w (fun e w' => e = .returned (.bool (goalS (machOf gs) x)) ∧ Below w.heap.size w w') := by
  obtain ⟨hn1, hn3⟩ := sys_len hS
  have hb1 : Below w.heap.size w (w.alloc (.cells #[.int .i64 x.a0, .int .i64 x.a1, .int .i64 x.a2] 85)) := (Below.refl _ _).alloc (Nat.le_refl _) _
  have k1 := PlaceP.new w x
  go_enter Tryz.func62, Tryz.ntmps62
  go_upto_region 1 with fail
  generalize w.alloc (.cells #[.int .i64 x.a0, .int .i64 x.a1, .int .i64 x.a2] 85) = w1 at *
  have HP := Lib.hid (hP.below hb1)
  have m0 := HP.out.m0
  go_wp2_with fail
  clear m0
  have HK := Lib.hid k1
  clear k1 hP
  go_loopw [12] (fun s12 wr => ∃ i : Nat, s12 = .int .i64 i ∧ i ≤ gs.length ∧ Below w1.heap.size w1 wr ∧ Hid (∀ j, j < i → (machOf gs).next j (x.a j).toNat < 0)) (fun s12 _ => gs.length - (intOf s12).toNat)
  case atStart => exact ⟨0, rfl, by omega, Below.refl _ _, fun j hj => by omega⟩
  case round =>
    obtain ⟨i, rfl, hi, hbr, hnx⟩ := hrel
    by_cases hil : i < gs.length
    · have hi3 : i < 3 := by omega
      have hi3I : (i : Int) < 3 := by omega
      have hilI : (i : Int) < (gs.length : Int) := by omega
      have ha := hx.a i hil
      have hrr : (machOf gs).rungs i = (rungsAt gs i).length := rfl
      obtain ⟨k, hk⟩ : ∃ k : Nat, x.a i = (k : Int) := ⟨(x.a i).toNat, by omega⟩
      obtain ⟨bg, og, cg, bn, on, cn, bb, ob, cb, bu, ou, cu, bv, ov, cv, br, orr, cr, hN⟩ := near_of HP.out hil (show k < (rungsAt gs i).length by omega)
      have NB := hN.below hbr
      have n0 := NB.n0; have n1 := NB.n1; have n2 := NB.n2
      have c0 := (HK.out.below hbr).a hi3
      rw [hk] at c0
      have hkI : (k : Int) < ((rungsAt gs i).length : Int) := by omega
      obtain ⟨nx, hnx2⟩ : ∃ nx, Hid ((machOf gs).next i k = nx) := ⟨_, rfl⟩
      rw [hnx2.out] at n2
      have HKK := Lib.hid (show (x.a i).toNat = k by rw [hk, Int.toNat_natCast])
      clear NB hN ha hrr hk
      by_cases h : 0 ≤ nx
      · have hd : decide ((0 : Int) ≤ nx) = true := by simp; omega
        have H := Lib.hid h
        clear h
        go_wp2_with fail
        go_quiet (fail)
        go_wp2_with fail
        go_ret
        exact ⟨by rw [goalS_no (show i < (machOf gs).n from hil) (by rw [HKK.out, hnx2.out]; have := H.out; omega)]; rfl, below_drewN (hb1.trans (hbr.mono hb1.size)) _⟩
      · have hd : decide ((0 : Int) ≤ nx) = false := by simp; omega
        have H := Lib.hid h
        clear h
        go_wp2_with fail
        go_quiet (fail)
        go_wp2_with fail
        go_roundw
        case rel =>
          refine ⟨i + 1, by go_num, by omega, below_drewN hbr _, fun j hj => ?_⟩
          by_cases hji : j = i
          · subst hji; rw [HKK.out, hnx2.out]; have := H.out; omega
          · exact hnx.out j (by omega)
        case measure => simp [intOf]; omega
    · obtain rfl : i = gs.length := by omega
      clear hil
      go_wp2_with fail
      go_ret
      exact ⟨by rw [goalS_yes (fun g hg => hnx.out g hg)]; rfl, hb1.trans (hbr.mono hb1.size)⟩

/-- what Goals hands back -/
def GoalsQ (gs : List Gd) (al fl : List Int) (w : World) (e : Ending) (w' : World) : Prop :=
  Below w.heap.size w w' ∧ ((∃ n, n ≠ 0 ∧ BegE gs al fl n ∧ e = .returned (.tuple #[.bool false, .int .i64 n])) ∨ (∃ y, sysS gs = true ∧ StOK gs al fl y ∧ e = .returned (.tuple #[.bool (goalS (machOf gs) y), .int .i64 0])))
theorem GoalsQ.good {gs : List Gd} {al fl : List Int} {y : St} {w w' : World} {e : Ending} (h : GoalsQ gs al fl w e w') (hS : sysS gs = true) (hy : StOK gs al fl y) : e = .returned (.tuple #[.bool (goalS (machOf gs) y), .int .i64 0]) ∧ Below w.heap.size w w' := by
  obtain ⟨hb, ⟨n, _, hn, _⟩ | ⟨z, _, hz, he⟩⟩ := h
  · rcases hn with ⟨h1, _⟩ | ⟨_, _, h1⟩
    · rw [hS] at h1; cases h1
    · exact absurd hy (h1 y)
  · rw [hz.uniq (sys_len hS).2 hy] at he
    exact ⟨he, hb⟩
set_option maxRecDepth 100000 in
set_option maxHeartbeats 4000000 in
theorem lockGoalsN (gs : List Gd) (p : Option Addr) (c : Nat) (w : World) (v : Value) (al fl : List Int) (hP : SysP w p c gs) (hQ : StatQ w v al fl) :
    Calls Tryz.prog 32 #[.agg #[.slice p gs.length c], v] w (GoalsQ gs al fl w) := by
  obtain ⟨u1, u2, rfl, hI1, hI2⟩ := hQ.at_
  obtain ⟨p1, c1, rfl, -⟩ := hI1.at_
  obtain ⟨p2, c2, rfl, -⟩ := hI2.at_
  have hb1 : Below w.heap.size w ((w.alloc (.cells #[.slice p gs.length c] 24)).alloc (.cells #[.slice p1 al.length c1, .slice p2 fl.length c2] 41)) := ((Below.refl _ _).alloc (Nat.le_refl _) _).alloc (by simp) _
  have s0 : ((w.alloc (.cells #[.slice p gs.length c] 24)).alloc (.cells #[.slice p1 al.length c1, .slice p2 fl.length c2] 41)).heap[w.heap.size]? = some (.cells #[.slice p gs.length c] 24 (0, 0)) := (heap_alloc_old _ _ (by simp)).trans (heap_alloc_new _ _)
  have s1 : ((w.alloc (.cells #[.slice p gs.length c] 24)).alloc (.cells #[.slice p1 al.length c1, .slice p2 fl.length c2] 41)).heap[w.heap.size + 1]? = some (.cells #[.slice p1 al.length c1, .slice p2 fl.length c2] 41 (0, 0)) := by
    have := heap_alloc_new (w.alloc (.cells #[.slice p gs.length c] 24)) (.cells #[.slice p1 al.length c1, .slice p2 fl.length c2] 41)
    simpa using this
  have P1 := hP.below hb1
  have Q1 := hQ.below hb1
  have x0 := blk_cell s0 0
  have x1 := blk_cell s1 0
  have x2 := blk_cell s1 1
  go_enter Tryz.func32, Tryz.ntmps32
  go_upto_region 1 with fail
  generalize (w.alloc (.cells #[.slice p gs.length c] 24)).alloc (.cells #[.slice p1 al.length c1, .slice p2 fl.length c2] 41) = w1 at *
  refine wp_region_lit ?_
  refine wpList_plain rfl (fun K hK => ?_)
  go_simp
  refine hK _ _ ?_
  clear hK K
  try simp only [Act.put, List.getElem_toArray, List.getElem_cons_succ, List.getElem_cons_zero, List.setIfInBounds_toArray, List.set_cons_zero, List.set_cons_succ]
  refine wpList_plain rfl (fun K hK => ?_)
  go_simp
  refine hK _ _ ?_
  clear hK K
  try simp only [Act.put, List.getElem_toArray, List.getElem_cons_succ, List.getElem_cons_zero, List.setIfInBounds_toArray, List.set_cons_zero, List.set_cons_succ]
  refine wpList_plain rfl (fun K hK => ?_)
  go_simp
  refine (begunN gs p c w1 (.agg #[.slice p1 al.length c1, .slice p2 fl.length c2]) al fl P1 Q1).mono ?_
  intro e w2 hq
  obtain ⟨pm, y, n, rfl, hq, hb2⟩ := hq.one
  refine hK _ _ ?_
  clear hK K
  try simp only [Act.put, List.getElem_toArray, List.getElem_cons_succ, List.getElem_cons_zero, List.setIfInBounds_toArray, List.set_cons_zero, List.set_cons_succ]
  clear s0 s1 x0 x1 x2 P1 Q1
  have HB2 := hb1.trans (hb2.mono hb1.size)
  clear hb2 hb1
  refine wpList_plain rfl (fun K hK => ?_)
  go_simp
  refine hK _ _ ?_
  clear hK K
  try simp only [Act.put, List.getElem_toArray, List.getElem_cons_succ, List.getElem_cons_zero, List.setIfInBounds_toArray, List.set_cons_zero, List.set_cons_succ]
  refine wpList_plain rfl (fun K hK => ?_)
  go_simp
  refine hK _ _ ?_
  clear hK K
  try simp only [Act.put, List.getElem_toArray, List.getElem_cons_succ, List.getElem_cons_zero, List.setIfInBounds_toArray, List.set_cons_zero, List.set_cons_succ]
  refine wpList_plain rfl (fun K hK => ?_)
  go_simp
  refine hK _ _ ?_
  clear hK K
  try simp only [Act.put, List.getElem_toArray, List.getElem_cons_succ, List.getElem_cons_zero, List.setIfInBounds_toArray, List.set_cons_zero, List.set_cons_succ]
  refine wpList_plain rfl (fun K hK => ?_)
  go_simp
  refine hK _ _ ?_
  clear hK K
  try simp only [Act.put, List.getElem_toArray, List.getElem_cons_succ, List.getElem_cons_zero, List.setIfInBounds_toArray, List.set_cons_zero, List.set_cons_succ]
  have z0 : StP (w2.alloc (.cells #[.int .i64 0, .int .i64 0, .int .i64 0, .int .i64 0, .int .i64 0, .int .i64 0] 87)) w2.heap.size St.zero := StP.new w2 St.zero
  have hB5 : Below w2.heap.size w2 (w2.alloc (.cells #[.int .i64 0, .int .i64 0, .int .i64 0, .int .i64 0, .int .i64 0, .int .i64 0] 87)) := (Below.refl _ _).alloc (Nat.le_refl _) _
  refine wpList_plain rfl (fun K hK => ?_)
  go_simp
  refine hK _ _ ?_
  clear hK K
  try simp only [Act.put, List.getElem_toArray, List.getElem_cons_succ, List.getElem_cons_zero, List.setIfInBounds_toArray, List.set_cons_zero, List.set_cons_succ]
  generalize w2.alloc (.cells #[.int .i64 0, .int .i64 0, .int .i64 0, .int .i64 0, .int .i64 0, .int .i64 0] 87) = w5 at z0 hB5 ⊢
  refine wpList_plain rfl (fun K hK => ?_)
  go_simp
  refine hK _ _ ?_
  clear hK K
  try simp only [Act.put, List.getElem_toArray, List.getElem_cons_succ, List.getElem_cons_zero, List.setIfInBounds_toArray, List.set_cons_zero, List.set_cons_succ]
  have q0 := z0.cell 0; have q1 := z0.cell 1; have q2 := z0.cell 2; have q3 := z0.cell 3; have q4 := z0.cell 4; have q5 := z0.cell 5
  have f0 := z0.fr 0; have f1 := z0.fr 1; have f2 := z0.fr 2; have f3 := z0.fr 3; have f4 := z0.fr 4; have f5 := z0.fr 5
  refine wpList_plain rfl (fun K hK => ?_)
  go_simp
  refine hK _ _ ?_
  clear hK K q0 q1 q2 q3 q4 q5 f0 f1 f2 f3 f4 f5
  try simp only [Act.put, List.getElem_toArray, List.getElem_cons_succ, List.getElem_cons_zero, List.setIfInBounds_toArray, List.set_cons_zero, List.set_cons_succ]
  change wpList _ _ _ _ _ (putSt w5 w2.heap.size y)
  have hB6 := hB5.trans (putSt_below (w := w5) (b := w2.heap.size) (z := y) (Nat.le_refl _))
  have SP := z0.put y
  generalize putSt w5 w2.heap.size y = w6 at hB6 SP ⊢
  have HB6 := HB2.trans (hB6.mono HB2.size)
  rcases hq with ⟨hn0, hbe⟩ | ⟨rfl, hS, hok, m, vn, vb, mb, N, s, f, rfl, hM⟩
  · have hd : (n != 0) = true := by simp [hn0]
    have hEnd : Hid (GoalsQ gs al fl w (.returned (.tuple #[.bool false, .int .i64 n])) w6) := ⟨HB6, Or.inl ⟨n, hn0, hbe, rfl⟩⟩
    clear hn0 hbe SP z0
    go_wp2_with fail
    go_ret2
    exact hEnd.out
  · have M6 := hM.below hB6
    have HEnd : Hid (∀ W, Below w6.heap.size w6 W → GoalsQ gs al fl w (.returned (.tuple #[.bool (goalS (machOf gs) y), .int .i64 0])) W) := fun W hW => ⟨HB6.trans (hW.mono HB6.size), Or.inr ⟨y, hS, hok, rfl⟩⟩
    have c0 := SP.cell 0; have c1 := SP.cell 1; have c2 := SP.cell 2; have c3 := SP.cell 3; have c4 := SP.cell 4; have c5 := SP.cell 5
    clear SP z0 hM hB6 hB5
    go_wp2_with fail
    refine (goalsN gs p c vn vb mb N s f w6 m y M6 hS hok.at_).mono ?_
    rintro e w7 ⟨rfl, hb7⟩
    go_wp2_with fail
    go_ret2
    exact HEnd.out _ hb7

/-- is it a win? -/
def winS (v : Ev) : Bool := decide (v.k = 0)
theorem winN (v : Ev) (w : World) : Calls Tryz.prog 60 (encEv v) w (fun e w' => e = .returned (.bool (winS v)) ∧ Below w.heap.size w w') := by
  unfold encEv
  have e0 := alloc_cell w #[.int .i64 v.g, .int .i64 v.k] 53 0 _ rfl
  have e1 := alloc_cell w #[.int .i64 v.g, .int .i64 v.k] 53 1 _ rfl
  have hb : Below w.heap.size w (w.alloc (.cells #[.int .i64 v.g, .int .i64 v.k] 53)) := (Below.refl _ _).alloc (Nat.le_refl _) _
  go_enter Tryz.func60, Tryz.ntmps60
  go_upto_region 1 with fail
  generalize w.alloc (.cells #[.int .i64 v.g, .int .i64 v.k] 53) = w1 at *
  go_wp2_with fail
  go_ret
  refine ⟨?_, hb⟩
  unfold winS
  by_cases h : v.k = 0 <;> simp [h] <;> rfl
theorem goalFnN (gs : List Gd) (p : Option Addr) (c : Nat) (vn vb : Value) (mb N s : Nat) (f : Nat × Nat → Option Value) (w : World) (m k : Nat) (y : St) (hP : MachP w m gs p c vn vb mb N s f) (hS : sysS gs = true) (hy : (machOf gs).At y) (hk : w.cell? ⟨k, 0, none⟩ = some (.pointer (some ⟨m, 0, none⟩))) :
    Calls Tryz.prog 61 #[.agg #[.int .i64 y.a0, .int .i64 y.a1, .int .i64 y.a2, .int .i64 y.f0, .int .i64 y.f1, .int .i64 y.f2], .pointer (some ⟨k, 0, none⟩)] w (fun e w' => e = .returned (.bool (goalS (machOf gs) y)) ∧ Below w.heap.size w w') := by
  have hb : Below w.heap.size w (w.alloc (.cells #[.int .i64 y.a0, .int .i64 y.a1, .int .i64 y.a2, .int .i64 y.f0, .int .i64 y.f1, .int .i64 y.f2] 87)) := (Below.refl _ _).alloc (Nat.le_refl _) _
  have hkl : k < w.heap.size := block_lt_of_cell hk
  have S1 := StP.new w y
  have k1 := (hb.cell (p := ⟨k, 0, none⟩) hkl).trans hk
  have M1 := hP.below hb
  go_enter Tryz.func61, Tryz.ntmps61
  go_upto_region 1 with fail
  generalize w.alloc (.cells #[.int .i64 y.a0, .int .i64 y.a1, .int .i64 y.a2, .int .i64 y.f0, .int .i64 y.f1, .int .i64 y.f2] 87) = w1 at *
  have c0 := S1.cell 0; have c1 := S1.cell 1; have c2 := S1.cell 2; have c3 := S1.cell 3; have c4 := S1.cell 4; have c5 := S1.cell 5
  go_wp2_with fail
  refine (goalsN gs p c vn vb mb N s f w1 m y M1 hS hy).mono ?_
  rintro e w7 ⟨rfl, hb7⟩
  go_wp2_with fail
  go_ret
  exact ⟨rfl, hb.trans (hb7.mono hb.size)⟩
end Go.Proofs.YtnkgbocdpngldaaGreatDoor

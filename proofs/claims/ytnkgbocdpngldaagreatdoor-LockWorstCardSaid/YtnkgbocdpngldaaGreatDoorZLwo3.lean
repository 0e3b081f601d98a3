/-
  LockWorst: the walk.
-/
import Derived.Test.YtnkgbocdpngldaaGreatDoorZLwo1
import Derived.Deep.DeepCutAuto
import Derived.Deep.CutBlock
import Derived.Deep.CutRange
set_option linter.unusedVariables false
set_option linter.unusedSimpArgs false
namespace Go.Proofs.YtnkgbocdpngldaaGreatDoor
open Go.RowKit Dc Dg

set_option maxRecDepth 100000 in
theorem inN (n low high : Int) (w : World) :
    Calls Tryz.prog 33 #[.int .i64 n, .int .i64 low, .int .i64 high] w fun e w' => e = .returned (.bool (decide (low ≤ n) && decide (n ≤ high))) ∧ w' = w := by
  by_cases h : low ≤ n
  · have hd : decide (low ≤ n) = true := by simp; omega
    go_enter Tryz.func33, Tryz.ntmps33
    go_wp2
    go_ret
    exact ⟨by simp [hd], rfl⟩
  · have hd : decide (low ≤ n) = false := by simp; omega
    go_enter Tryz.func33, Tryz.ntmps33
    go_wp2
    go_ret
    exact ⟨by simp [hd], rfl⟩

theorem addr_addO (b o i : Nat) : (⟨b, o, none⟩ : Addr).add i = ⟨b, o + i, none⟩ := by
  unfold Addr.add
  split
  · rename_i h; subst h; rfl
  · rfl
theorem infoRg : (Tryz.prog.info? 59).map (fun i => (i.zero, i.size, i.bytes)) = some (some (.agg #[.string ⟨#[]⟩, .string ⟨#[]⟩, .string ⟨#[]⟩, .int .i64 0, .int .i64 0, .slice none 0 0, .slice none 0 0]), 7, 112) := by kernel_rfl
/-- rungs appended to nothing -/
theorem wpList_append_rg {w : World} {ops : Array Oper} {rest : List Oper} {o : Oper} {a : Act} {Q : Exit → Act → World → Prop} (T : TypeId)
    (hT : Tryz.prog.underlying T = some (.slice 59)) (hgd : o.guard = none) (s x : Operand)
    (ho : o.op = .call { callee := .builtin .append, args := #[s, x], argTypes := #[T, T] })
    (base : Nat) (v : Value) (hs : a.eval s = v) (hown : w.ownsRow base 59 7 v 0 []) (b off cc n : Nat) (L : List RgC) (hn : n = L.length)
    (hx : a.eval x = .slice (some ⟨b, off, none⟩) n cc) (hc : ∀ i (hi : i < L.length), RungAt w b (off + i * 7) L[i].1 L[i].2.1.1 L[i].2.1.2 L[i].2.2.1 L[i].2.2.2) (hlen : L.length ≤ 1000) (hbase : base ≤ w.heap.size)
    (h : ∀ v' w', w'.ownsRow base 59 7 v' n (flatR L) → w.grownBy w' v.ownBlock → wpList Tryz.prog ops Q rest (a.put o.dst v') w') :
    wpList Tryz.prog ops Q (o :: rest) a w := by
  subst hn
  obtain ⟨i0, hi, hz0, hz1, hz2⟩ := info_parts infoRg
  refine wpList_append_own _ hgd s x T ho base 59 i0 _ 7 112 hT hi hz0 hz1 hz2 rfl (by decide) v 0 [] hs hown ⟨b, off, none⟩ L.length cc (flatR L) hx (flatR_len L) ?_ (flat_one L) (by unfold maxLen; omega) (by omega) hbase ?_
  · intro j u hu
    rw [addr_addO]
    exact flat_cells hc j u hu
  · intro v' w' hown' hg _
    rw [Nat.zero_add, List.nil_append] at hown'
    exact h v' w' hown' hg

/-- what LockWorst's walk keeps -/
structure WorSt (wS w : World) (ls : List Gd) (xb : Nat) (y : St) : Prop where
  x : ∃ u1 u2, w.heap[xb]? = some (.cells #[u1, u2] 41 (0, 0)) ∧ StatR 0 ls.length w (.agg #[u1, u2]) y
  hx : wS.heap.size ≤ xb
  ok : StOK ls (atL ls.length y) (failL ls.length y) y
  bl : Below wS.heap.size wS w
theorem WorSt.below {wS w w' : World} {ls : List Gd} {xb : Nat} {y : St} (h : WorSt wS w ls xb y) (hb : Below w.heap.size w w') : WorSt wS w' ls xb y := by
  obtain ⟨u1, u2, h1, h2⟩ := h.x
  exact ⟨⟨u1, u2, (hb.block _ (row_lt h1)).trans h1, h2.below hb⟩, h.hx, h.ok, h.bl.trans (hb.mono h.bl.size)⟩
theorem WorSt.put {wS w : World} {ls : List Gd} {xb : Nat} {y z : St} (h : WorSt wS w ls xb y) {u1 u2 : Value} (hz : StatR 0 ls.length w (.agg #[u1, u2]) z) (hk : StOK ls (atL ls.length z) (failL ls.length z) z) : WorSt wS (putSt2 w xb u1 u2) ls xb z := by
  obtain ⟨v1, v2, h1, _⟩ := h.x
  have := h.hx
  exact ⟨⟨u1, u2, putSt2_row h1, hz.put u1 u2 h1 (by decide)⟩, h.hx, hk, h.bl.trans (putSt2_below (by omega))⟩

set_option maxRecDepth 100000 in
set_option maxHeartbeats 8000000 in
theorem lockWorstN (gs : List Gd) (p : Option Addr) (c : Nat) (n0 n1 : Int) (pb : Option Addr) (cb : Nat) (bits : List Int) (w : World) (hP : SysP w p c gs) (hQ : IntsQ w (.slice pb bits.length cb) bits) (hlb : bits.length ≤ 140737488351232) :
    Calls Tryz.prog 8 #[.agg #[.slice p gs.length c], .agg #[.int .i64 n0, .int .i64 n1], .slice pb bits.length cb] w (TrueQ w) := by
  have hb1 : Below w.heap.size w ((w.alloc (.cells #[.slice p gs.length c] 24)).alloc (.cells #[.int .i64 n0, .int .i64 n1] 25)) := ((Below.refl _ _).alloc (Nat.le_refl _) _).alloc (by simp) _
  have s0 : ((w.alloc (.cells #[.slice p gs.length c] 24)).alloc (.cells #[.int .i64 n0, .int .i64 n1] 25)).heap[w.heap.size]? = some (.cells #[.slice p gs.length c] 24 (0, 0)) := (heap_alloc_old _ _ (by simp)).trans (heap_alloc_new _ _)
  have s1 : ((w.alloc (.cells #[.slice p gs.length c] 24)).alloc (.cells #[.int .i64 n0, .int .i64 n1] 25)).heap[w.heap.size + 1]? = some (.cells #[.int .i64 n0, .int .i64 n1] 25 (0, 0)) := by
    have := heap_alloc_new (w.alloc (.cells #[.slice p gs.length c] 24)) (.cells #[.int .i64 n0, .int .i64 n1] 25)
    simpa using this
  have P1 := hP.below hb1
  have x0 := blk_cell s0 0
  go_enter Tryz.func8, Tryz.ntmps8
  go_upto_region 1 with fail
  generalize (w.alloc (.cells #[.slice p gs.length c] 24)).alloc (.cells #[.int .i64 n0, .int .i64 n1] 25) = w1 at *
  go_wp2_with fail
  refine P1.check.mono ?_
  rintro e w2 ⟨rfl, hb2⟩
  have HB2 := hb1.trans (hb2.mono hb1.size)
  have P2 := hP.below HB2
  have t0 := (hb2.block _ (row_lt s0)).trans s0
  have t1 := (hb2.block _ (row_lt s1)).trans s1
  clear x0 s0 s1 P1 hb1 hb2
  cases hS : sysS gs
  · simp only [Bool.false_eq_true, if_false]
    have X2 := P2.X
    clear t0 t1 P2
    go_wp2_with fail
    all_goals
      refine (worksN _ X2).mono ?_
      rintro e wk ⟨rfl, hbk⟩
      go_wp2_with fail
      go_ret
      exact ⟨rfl, HB2.trans (hbk.mono HB2.size)⟩
  · simp only [if_true]
    obtain ⟨hn1, hn3⟩ := sys_len hS
    have z0 := blk_cell t0 0
    have z1 := blk_cell t1 0
    have z2 := blk_cell t1 1
    have HM1 : Hid (∀ n, Calls Tryz.prog 27 #[.int .i64 n0, .int .i64 (gs.length : Int)] (w2.drewN n) fun e w' => e = .returned (.int .i64 (n0 % (gs.length : Int))) ∧ w' = w2.drewN n) := fun n => modN _ _ (by omega) (by omega) _
    have HM2 : Hid (∀ n, Calls Tryz.prog 27 #[.int .i64 n1, .int .i64 9] (w2.drewN n) fun e w' => e = .returned (.int .i64 (n1 % 9)) ∧ w' = w2.drewN n) := fun n => modN _ _ (by omega) (by omega) _
    have HP := Lib.hid hP
    have HQ := Lib.hid hQ
    have HT0 := Lib.hid t0
    have HP2 := Lib.hid P2
    clear t0 t1 P2 hP hQ
    go_wp2_with fail
    go_quiet ((go_at_call 27; first | with_reducible exact quiet_one (HM1.out _) | with_reducible exact quiet_one (HM2.out _)))
    obtain ⟨g, hg⟩ : ∃ g : Nat, n0 % (gs.length : Int) = (g : Int) := ⟨(n0 % (gs.length : Int)).toNat, by have := Int.emod_nonneg n0 (show (gs.length : Int) ≠ 0 by omega); omega⟩
    obtain ⟨bad, hbad⟩ : ∃ b : Nat, n1 % 9 = (b : Int) := ⟨(n1 % 9).toNat, by omega⟩
    have hgn : g < gs.length := by have := Int.emod_lt_of_pos n0 (show (0 : Int) < gs.length by omega); omega
    have hb8 : bad ≤ 8 := by omega
    rw [hg, hbad]
    have hbq : Below w2.heap.size w2 (w2.drewN nq) := below_drewN (Below.refl _ _) _
    have HB3 := HB2.trans (hbq.mono HB2.size)
    have P3 := HP2.out.below hbq
    have k0 := (hbq.block _ (row_lt HT0.out)).trans HT0.out
    clear HM1 HM2 HP2 HT0 z0 z1 z2 hbq HB2
    generalize w2.drewN nq = w3 at *
    obtain ⟨bg, og, rfl, hbg, hcg⟩ := P3.G.at_ (by omega)
    obtain ⟨qr, cq, hname, hrun, hRP⟩ := hcg g hgn
    have hra : gs[g].rungs = rungsAt gs g := by unfold rungsAt; rw [List.getElem?_eq_getElem hgn]
    have hna : gs[g].name = (guardAt gs g).name := by unfold guardAt; rw [List.getElem?_eq_getElem hgn]
    rw [hra] at hrun hRP
    rw [hna] at hname
    obtain ⟨nm, HNM⟩ : ∃ nm, Hid (nm = (guardAt gs g).name) := ⟨_, by unfold Hid; rfl⟩
    rw [← HNM.out] at hname
    obtain ⟨nr, HNR⟩ : ∃ nr, Hid (nr = (rungsAt gs g).length) := ⟨_, by unfold Hid; rfl⟩
    rw [← HNR.out] at hrun
    have hr1 : 1 ≤ nr := by have := (guard_len (sys_guard hS hgn)).1; rw [HNR.out]; exact this
    have hr8 : nr ≤ 8 := by have := (guard_len (sys_guard hS hgn)).2; rw [HNR.out]; exact this
    have z0 := blk_cell k0 0
    clear hcg hra hna
    obtain ⟨br, orr, rfl, hbr, hcr⟩ := hRP.at_ (by rw [← HNR.out]; omega)
    obtain ⟨L, hL1, hL2⟩ := rungs_list hcr
    have HLN : Hid (nr = L.length) := by unfold Hid; rw [HNR.out, ← hL1, List.length_map]
    go_upto_region 5 with fail
    obtain ⟨w4, hw4⟩ : ∃ w4, w4 = (w3.alloc (.cells #[.string nm, .slice (some ⟨br, orr, none⟩) nr cq] 62)).alloc (.cells #[.slice (some ⟨w3.heap.size, 0, none⟩) 1 1] 24) := ⟨_, rfl⟩
    have m0 : w4.heap[w3.heap.size]? = some (.cells #[.string nm, .slice (some ⟨br, orr, none⟩) nr cq] 62 (0, 0)) := by rw [hw4]; exact (heap_alloc_old _ _ (by simp)).trans (heap_alloc_new _ _)
    have m1 : w4.heap[w3.heap.size + 1]? = some (.cells #[.slice (some ⟨w3.heap.size, 0, none⟩) 1 1] 24 (0, 0)) := by
      rw [hw4]
      have := heap_alloc_new (w3.alloc (.cells #[.string nm, .slice (some ⟨br, orr, none⟩) nr cq] 62)) (.cells #[.slice (some ⟨w3.heap.size, 0, none⟩) 1 1] 24)
      simpa using this
    have hb4 : Below w3.heap.size w3 w4 := by rw [hw4]; exact ((Below.refl _ _).alloc (Nat.le_refl _) _).alloc (by simp) _
    have sz4 : w4.heap.size = w3.heap.size + 1 + 1 := by rw [hw4]; simp
    rw [← hw4]
    clear hw4
    obtain ⟨w5, hw5⟩ : ∃ w5, w5 = w4.alloc (.cells #[] 59) := ⟨_, rfl⟩
    have hb5 : Below w4.heap.size w4 w5 := by rw [hw5]; exact (Below.refl _ _).alloc (Nat.le_refl _) _
    have m2 : w5.heap[w4.heap.size]? = some (.cells #[] 59 (0, 0)) := by rw [hw5]; exact heap_alloc_new _ _
    have sz5 : w5.heap.size = w3.heap.size + 1 + 1 + 1 := by rw [hw5]; simp [sz4]
    rw [sz4] at m2
    have hb45 := hb4.trans (hb5.mono hb4.size)
    have y0 := (hb45.cell (p := ⟨w.heap.size, 0, none⟩) (row_lt k0)).trans z0
    have y1 := (hb45.cell (p := ⟨bg, og + g * 2 + 1, none⟩) hbg).trans hrun
    have HL2 : Hid (∀ i (hi : i < L.length), RungAt w5 br (orr + i * 7) L[i].1 L[i].2.1.1 L[i].2.1.2 L[i].2.2.1 L[i].2.2.2) := fun i hi => (hL2 i hi).below hbr hb45
    have hown : w5.ownsRow (w3.heap.size + 1 + 1) 59 7 (.slice (some ⟨w3.heap.size + 1 + 1, 0, none⟩) 0 0) 0 [] := ⟨rfl, Or.inr ⟨_, 0, #[], rfl, Nat.le_refl _, m2, Nat.le_refl _, by unfold maxLen; omega, rfl, rfl⟩⟩
    have HL3 := Lib.hid hL2
    clear z0 hname hrun hRP hcr hL2
    refine wp_region_lit ?_
    refine wpList_plain rfl (fun K hK => ?_)
    go_simp
    refine hK _ _ ?_
    clear hK K
    try simp only [Act.put, List.getElem_toArray, List.getElem_cons_succ, List.getElem_cons_zero, List.setIfInBounds_toArray, List.set_cons_zero, List.set_cons_succ]
    rw [← hw5]
    clear hw5
    refine wpList_plain rfl (fun K hK => ?_)
    go_simp
    refine hK _ _ ?_
    clear hK K
    try simp only [Act.put, List.getElem_toArray, List.getElem_cons_succ, List.getElem_cons_zero, List.setIfInBounds_toArray, List.set_cons_zero, List.set_cons_succ]
    refine wpList_plain rfl (fun K hK => ?_)
    go_simp
    refine hK _ _ ?_
    clear hK K
    try simp only [Act.put, List.getElem_toArray, List.getElem_cons_succ, List.getElem_cons_zero, List.setIfInBounds_toArray, List.set_cons_zero, List.set_cons_succ]
    refine wpList_plain rfl (fun K hK => ?_)
    go_simp
    refine hK _ _ ?_
    clear hK K
    try simp only [Act.put, List.getElem_toArray, List.getElem_cons_succ, List.getElem_cons_zero, List.setIfInBounds_toArray, List.set_cons_zero, List.set_cons_succ]
    refine wpList_plain rfl (fun K hK => ?_)
    go_simp
    refine hK _ _ ?_
    clear hK K
    try simp only [Act.put, List.getElem_toArray, List.getElem_cons_succ, List.getElem_cons_zero, List.setIfInBounds_toArray, List.set_cons_zero, List.set_cons_succ]
    refine wpList_plain rfl (fun K hK => ?_)
    go_simp
    refine hK _ _ ?_
    clear hK K
    try simp only [Act.put, List.getElem_toArray, List.getElem_cons_succ, List.getElem_cons_zero, List.setIfInBounds_toArray, List.set_cons_zero, List.set_cons_succ]
    refine wpList_plain rfl (fun K hK => ?_)
    go_simp
    refine hK _ _ ?_
    clear hK K
    try simp only [Act.put, List.getElem_toArray, List.getElem_cons_succ, List.getElem_cons_zero, List.setIfInBounds_toArray, List.set_cons_zero, List.set_cons_succ]
    refine wpList_append_rg 60 Tryz.underlying60 rfl (.tmp 46) (.tmp 52) rfl _ _ rfl hown br orr cq nr L HLN.out rfl HL2.out (by rw [← HLN.out]; omega) (by omega) ?_
    intro v6 w6 hrow hg6
    try simp only [Act.put, List.getElem_toArray, List.getElem_cons_succ, List.getElem_cons_zero, List.setIfInBounds_toArray, List.set_cons_zero, List.set_cons_succ]
    have hb6 : Below (w3.heap.size + 1 + 1) w5 w6 := (Below.refl (w3.heap.size + 1 + 1) w5).grown (row := some (w3.heap.size + 1 + 1)) hg6 (by omega) (fun k hk => by cases hk; omega)
    obtain ⟨rb, c6, rfl, hrb⟩ : ∃ rb c6, v6 = .slice (some ⟨rb, 0, none⟩) nr c6 ∧ w3.heap.size + 1 + 1 ≤ rb := by
      rcases hrow.2 with ⟨_, h2⟩ | ⟨g', cap', cur, h1, h2, _⟩
      · omega
      · exact ⟨g', cap', h1, h2⟩
    have u0 := (hb6.block w3.heap.size (by omega)).trans ((hb5.block w3.heap.size (by omega)).trans m0)
    have u1 := (hb6.block (w3.heap.size + 1) (by omega)).trans ((hb5.block (w3.heap.size + 1) (by omega)).trans m1)
    have hb36 : Below w3.heap.size w3 w6 := (hb45.mono (Nat.le_refl _)).trans (hb6.mono (by omega))
    have HBP := Lib.hid hb36
    have HU0 := Lib.hid u0
    have HU1 := Lib.hid u1
    have HROW := Lib.hid hrow
    clear hg6 hb4 hb5 hb45 m0 m1 m2 y0 y1 hown HL2 hrow u0 u1 hb36 sz4 sz5 hb6
    go_wp2_with fail
    go_loopw [11] (fun s11 wr => ∃ i : Nat, s11 = .int .i64 i ∧ i ≤ nr ∧ Hid (wr.ownsRow (w3.heap.size + 1 + 1) 59 7 (.slice (some ⟨rb, 0, none⟩) nr c6) nr (flatR (clrC L i))) ∧ Below (w3.heap.size + 1 + 1) w6 wr) (fun s11 _ => nr - (intOf s11).toNat)
    case atStart => exact ⟨0, rfl, by omega, HROW.out, Below.refl _ _⟩
    case round =>
      obtain ⟨i, rfl, hi, hrw, hbw⟩ := hrel
      by_cases hil : i < nr
      · have hiL : i < L.length := by rw [← HLN.out]; exact hil
        have hcl : i * 7 + 5 < nr * 7 := by omega
        have hcell := World.ownsRow.cellAt hrw.out (i * 7 + 5) hcl
        rw [flatR_get _ i (by rw [clrC_len]; exact hiL) 5 (by omega), clrC_get hiL] at hcell
        have hcell2 : wr.cell? ⟨rb, i * 7 + 5, none⟩ = some (.slice L[i].2.1.1 L[i].1.needs.length L[i].2.1.2) := hcell
        have hfr := World.ownsRow.frozenAt hrw.out (i * 7 + 5)
        have hst := (World.ownsRow.stored hrw.out (i * 7 + 5) (.slice none 0 0)).1
        rw [flatR_set _ i (by rw [clrC_len]; exact hiL), clrC_get hiL, clrC_step hiL] at hst
        have HST := Lib.hid hst
        have hb7 : Below (w3.heap.size + 1 + 1) w6 (wr.setCell ⟨rb, i * 7 + 5, none⟩ (.slice none 0 0)) := hbw.setCell (p := ⟨rb, i * 7 + 5, none⟩) hrb _
        generalize L[i].1.needs.length = z1 at hcell2
        generalize L[i].2.1.1 = z2 at hcell2
        generalize L[i].2.1.2 = z3 at hcell2
        clear hst hcell hrw hbw
        go_wp2_with fail
        go_roundw
        case rel => exact ⟨i + 1, by go_num, by omega, HST, hb7⟩
        case measure => simp [intOf]; omega
      · obtain rfl : nr = i := by omega
        have hre : clrC L nr = L.map loneC := by rw [HLN.out, clrC_end]
        rw [hre] at hrw
        have v0 := (hbw.block w3.heap.size (by omega)).trans HU0.out
        have v1 := (hbw.block (w3.heap.size + 1) (by omega)).trans HU1.out
        have q0 := blk_cell v1 0
        have q1 := blk_cell v0 1
        have f1 := frozen_of_row wr w3.heap.size 1 _ _ v0
        have hgl : w3.heap.size < wr.heap.size := row_lt v0
        have hol : w3.heap.size + 1 < wr.heap.size := row_lt v1
        clear hil hre hi
        go_upto_region 11 with fail
        obtain ⟨wS, hwS⟩ : ∃ wS, wS = wr.setCell ⟨w3.heap.size, 1, none⟩ (.slice (some ⟨rb, 0, none⟩) nr c6) := ⟨_, rfl⟩
        have e0 : wS.heap[w3.heap.size]? = some (.cells #[.string nm, .slice (some ⟨rb, 0, none⟩) nr c6] 62 (0, 0)) := by rw [hwS]; exact heap_setCell_same wr w3.heap.size 1 _ _ (.slice (some ⟨rb, 0, none⟩) nr c6) v0
        have e1 : wS.heap[w3.heap.size + 1]? = some (.cells #[.slice (some ⟨w3.heap.size, 0, none⟩) 1 1] 24 (0, 0)) := by rw [hwS, Below.heap_setCell _ _ _ _ (by show w3.heap.size + 1 ≠ w3.heap.size; omega)]; exact v1
        have hrS : wS.ownsRow (w3.heap.size + 1 + 1) 59 7 (.slice (some ⟨rb, 0, none⟩) nr c6) nr (flatR (L.map loneC)) := by
          refine row_same hrw.out (fun k hk => ?_)
          have hk2 := (row_type hrw.out hk).1
          rw [hwS, Below.heap_setCell _ _ _ _ (by show k ≠ w3.heap.size; omega)]
        have hbS : Below w3.heap.size w3 wS := by rw [hwS]; exact (HBP.out.trans (hbw.mono (by omega))).setCell (p := ⟨w3.heap.size, 1, none⟩) (Nat.le_refl _) _
        have hsS : w3.heap.size + 1 < wS.heap.size := row_lt e1
        rw [← hwS]
        clear hwS v0 v1 q0 q1 f1 hrw hbw hgl hol
        have HBS := HB3.trans (hbS.mono HB3.size)
        obtain ⟨ls, HLS⟩ : ∃ ls, Hid (ls = loneG gs g) := ⟨_, by unfold Hid; rfl⟩
        have hls1 : ls.length = 1 := by rw [HLS.out]; rfl
        have hlr : (rungsAt ls 0).length = nr := by rw [HLS.out, rungsAt_lone, List.length_map, HNR.out]
        have hSP : SysP wS (some ⟨w3.heap.size, 0, none⟩) 1 ls := by
          refine ⟨⟨fun _ => ⟨w3.heap.size, 0, rfl, row_lt e0, fun k hk => ?_⟩⟩, HP.out.X.below HBS, by rw [HLS.out]; exact fit_lone HP.out.F hgn, by rw [hls1]; exact Nat.le_refl _, by omega⟩
          obtain rfl : k = 0 := by omega
          have hg0 : ls[0] = ⟨(guardAt gs g).name, (rungsAt gs g).map loneR⟩ := by
            have h1 : ls[0]? = some ⟨(guardAt gs g).name, (rungsAt gs g).map loneR⟩ := by rw [HLS.out]; rfl
            rw [List.getElem?_eq_getElem hk] at h1
            exact Option.some.inj h1
          rw [hg0]
          refine ⟨some ⟨rb, 0, none⟩, c6, by rw [← HNM.out]; exact blk_cell e0 0, ?_, ?_⟩
          · show wS.cell? ⟨w3.heap.size, 0 + 0 * 2 + 1, none⟩ = some (.slice (some ⟨rb, 0, none⟩) ((rungsAt gs g).map loneR).length c6)
            rw [List.length_map, ← HNR.out]
            exact blk_cell e0 1
          · show RungsP wS _ ((rungsAt gs g).map loneR)
            rw [← hL1]
            exact rungs_row (w0 := w3) hrS HLN.out (fun x hx => by
              obtain ⟨j, hj, rfl⟩ := List.mem_iff_getElem.1 hx
              exact (HL3.out j hj).l.below hbS)
        have hRS : RungsP wS (some ⟨rb, 0, none⟩) (rungsAt ls 0) := by
          rw [HLS.out, rungsAt_lone, ← hL1]
          exact rungs_row (w0 := w3) hrS HLN.out (fun x hx => by
              obtain ⟨j, hj, rfl⟩ := List.mem_iff_getElem.1 hx
              exact (HL3.out j hj).l.below hbS)
        have hsl : sysS ls = true := by rw [HLS.out]; exact sys_lone hS hgn
        have hW1 : worstG ls 0 bad = (worstS (machOf ls) 0 0 0 bad, 0) := by
          unfold worstG
          rw [if_pos hsl, if_pos ⟨Int.le_refl _, by omega⟩, if_pos ⟨by omega, by omega⟩]
          simp
        have hW2 : worstG gs g bad = (worstS (machOf ls) 0 0 0 bad, 0) := by
          unfold worstG
          rw [if_pos hS, if_pos ⟨by omega, by omega⟩, if_pos ⟨by omega, by omega⟩, HLS.out, lone_worst]
          simp
        have hLn : Lone (machOf ls) := by rw [HLS.out]; exact lone_is hS hgn
        obtain ⟨b2, hb2, hb2m⟩ : ∃ b2 : Nat, min ((bad : Int) + 1) 8 = (b2 : Int) ∧ (b2 = bad ∨ b2 = bad + 1) ∧ b2 ≤ 8 := ⟨min (bad + 1) 8, by omega, by omega, by omega⟩
        have hW3 : worstG ls 0 b2 = (worstS (machOf ls) 0 0 0 b2, 0) := by
          unfold worstG
          rw [if_pos hsl, if_pos ⟨Int.le_refl _, by omega⟩, if_pos ⟨by omega, by omega⟩]
          simp
        have hr0 : 0 < (machOf ls).rungs 0 := (sys_good hsl).r0 0 (by show 0 < ls.length; omega)
        have hle : worstS (machOf ls) 0 0 0 bad ≤ worstS (machOf ls) 0 0 0 b2 := by
          rcases hb2m.1 with h | h
          · rw [h]; exact Int.le_refl _
          · rw [h]; exact worst_mono hLn.leads bad 8 0 0 hr0 (hLn.leads.eight hr0)
        have hrg := worstS_range hLn.leads (k := 0) (f := 0) (left := bad) hr0 hb8
        have hrg2 := worstS_range hLn.leads (k := 0) (f := 0) (left := b2) hr0 hb2m.2
        obtain ⟨W, HW⟩ : ∃ W, Hid (W = worstS (machOf ls) 0 0 0 bad) := ⟨_, by unfold Hid; rfl⟩
        obtain ⟨W2, HW2⟩ : ∃ W2, Hid (W2 = worstS (machOf ls) 0 0 0 b2) := ⟨_, by unfold Hid; rfl⟩
        rw [← HW.out] at hW1 hW2 hle hrg
        rw [← HW2.out] at hW3 hle hrg2
        have HC1 : Hid (∀ w' : World, SysP w' (some ⟨w3.heap.size, 0, none⟩) 1 ls → Calls Tryz.prog 24 #[.agg #[.slice (some ⟨w3.heap.size, 0, none⟩) 1 1], .int .i64 0, .int .i64 bad] w' (WorstQ w' (W, 0))) := fun w' h => by
          have := worstN ls _ 1 0 bad w' h
          rw [hW1, hls1] at this; exact this
        have HC2 : Hid (∀ w' : World, SysP w' (some ⟨bg, og, none⟩) c gs → Calls Tryz.prog 24 #[.agg #[.slice (some ⟨bg, og, none⟩) gs.length c], .int .i64 g, .int .i64 bad] w' (WorstQ w' (W, 0))) := fun w' h => by
          have := worstN gs _ c g bad w' h
          rw [hW2] at this; exact this
        have HC3 : Hid (∀ w' : World, SysP w' (some ⟨w3.heap.size, 0, none⟩) 1 ls → Calls Tryz.prog 24 #[.agg #[.slice (some ⟨w3.heap.size, 0, none⟩) 1 1], .int .i64 0, .int .i64 b2] w' (WorstQ w' (W2, 0))) := fun w' h => by
          have := worstN ls _ 1 0 b2 w' h
          rw [hW3, hls1] at this; exact this
        have hkS : wS.heap[w.heap.size]? = some (.cells #[.slice (some ⟨bg, og, none⟩) gs.length c] 24 (0, 0)) := (hbS.block _ (row_lt k0)).trans k0
        have HSP := Lib.hid hSP
        have HRS := Lib.hid hRS
        have HSL := Lib.hid hsl
        have HLN1 := Lib.hid hLn
        have HE1 := Lib.hid e1
        have HKS := Lib.hid hkS
        have c0 := blk_cell hkS 0
        have c1 := blk_cell e1 0
        clear hW1 hW2 hW3 hSP hRS hsl hLn e0 e1 hkS hrS hbS k0 P3 HB3 HBP HU0 HU1 HROW
        go_wp2_with fail
        refine (HC1.out wS HSP.out).mono ?_
        rintro e wa ⟨rfl, hba⟩
        have ca0 := (hba.cell (block_lt_of_cell c0)).trans c0
        have ca1 := (hba.cell (block_lt_of_cell c1)).trans c1
        clear c0 c1
        go_wp2_with fail
        have HBA := HBS.trans (hba.mono HBS.size)
        refine (HC2.out wa (HP.out.below HBA)).mono ?_
        rintro e wb ⟨rfl, hbb⟩
        have cb1 := (hbb.cell (block_lt_of_cell ca1)).trans ca1
        clear ca0 ca1
        go_wp2_with fail
        have HBB := HBA.trans (hbb.mono HBA.size)
        have hSb := (hba.mono (Nat.le_refl _)).trans (hbb.mono hba.size)
        refine (HC3.out wb (HSP.out.below hSb)).mono ?_
        rintro e wc ⟨rfl, hbc⟩
        have HBC := HBB.trans (hbc.mono HBB.size)
        have hSc := hSb.trans (hbc.mono hSb.size)
        have cc1 := (hbc.cell (block_lt_of_cell cb1)).trans cb1
        have hec := (hSc.block _ (row_lt HE1.out)).trans HE1.out
        clear cb1 hba hbb hbc hSb HBA HBB HBS
        go_upto_region 14 with fail
        refine wp_region_lit ?_
        refine wpList_plain rfl (fun K hK => ?_)
        go_simp
        refine hK _ _ ?_
        clear hK K
        try simp only [Act.put, List.getElem_toArray, List.getElem_cons_succ, List.getElem_cons_zero, List.setIfInBounds_toArray, List.set_cons_zero, List.set_cons_succ]
        refine wpList_plain rfl (fun K hK => ?_)
        go_simp
        have hst := startN ls (some ⟨w3.heap.size, 0, none⟩) 1 wc (HSP.out.below hSc)
        rw [hls1] at hst
        refine hst.mono ?_
        clear hst
        intro e wd hq
        obtain ⟨hbd, ⟨hS0, -⟩ | ⟨-, u, rfl, hu⟩⟩ := hq
        · rw [HSL.out] at hS0; cases hS0
        rw [hls1] at hu
        obtain ⟨p1, d1, p2, d2, rfl, hI1, hI2⟩ := hu.two (by omega)
        refine hK _ _ ?_
        clear hK K cc1
        try simp only [Act.put, List.getElem_toArray, List.getElem_cons_succ, List.getElem_cons_zero, List.setIfInBounds_toArray, List.set_cons_zero, List.set_cons_succ]
        refine wpList_plain rfl (fun K hK => ?_)
        go_simp
        refine hK _ _ ?_
        clear hK K
        try simp only [Act.put, List.getElem_toArray, List.getElem_cons_succ, List.getElem_cons_zero, List.setIfInBounds_toArray, List.set_cons_zero, List.set_cons_succ]
        refine wpList_plain rfl (fun K hK => ?_)
        go_simp
        refine hK _ _ ?_
        clear hK K
        try simp only [Act.put, List.getElem_toArray, List.getElem_cons_succ, List.getElem_cons_zero, List.setIfInBounds_toArray, List.set_cons_zero, List.set_cons_succ]
        refine wpList_plain rfl (fun K hK => ?_)
        go_simp
        refine hK _ _ ?_
        clear hK K
        try simp only [Act.put, List.getElem_toArray, List.getElem_cons_succ, List.getElem_cons_zero, List.setIfInBounds_toArray, List.set_cons_zero, List.set_cons_succ]
        refine wpList_plain rfl (fun K hK => ?_)
        go_simp
        refine hK _ _ ?_
        clear hK K
        try simp only [Act.put, List.getElem_toArray, List.getElem_cons_succ, List.getElem_cons_zero, List.setIfInBounds_toArray, List.set_cons_zero, List.set_cons_succ]
        have x1 := heap_alloc_new wd (.cells #[.slice none 0 0, .slice none 0 0] 41)
        have hb3 : Below wd.heap.size wd (wd.alloc (.cells #[.slice none 0 0, .slice none 0 0] 41)) := (Below.refl _ _).alloc (Nat.le_refl _) _
        generalize wd.alloc (.cells #[.slice none 0 0, .slice none 0 0] 41) = we at x1 hb3 ⊢
        have q0 := blk_cell x1 0
        have q1 := blk_cell x1 1
        have f0 := frozen_of_row we wd.heap.size 0 _ _ x1
        have f1 := frozen_of_row we wd.heap.size 1 _ _ x1
        refine wpList_plain rfl (fun K hK => ?_)
        go_simp
        refine hK _ _ ?_
        clear hK K
        try simp only [Act.put, List.getElem_toArray, List.getElem_cons_succ, List.getElem_cons_zero, List.setIfInBounds_toArray, List.set_cons_zero, List.set_cons_succ]
        clear q0 q1 f0 f1
        change wpList _ _ _ _ _ (putSt2 we wd.heap.size (.slice p1 1 d1) (.slice p2 1 d2))
        have hSd := hSc.trans (hbd.mono hSc.size)
        have hSe := hSd.trans (hb3.mono hSd.size)
        have HBD := HBC.trans (hbd.mono HBC.size)
        have HBE := HBD.trans (hb3.mono HBD.size)
        have HX : Hid (WorSt wS (putSt2 we wd.heap.size (.slice p1 1 d1) (.slice p2 1 d2)) ls wd.heap.size St.zero) :=
          ⟨⟨_, _, putSt2_row x1, by rw [hls1]; exact ((StatR.base ⟨_, _, rfl, hI1, hI2⟩ (Nat.zero_le _)).below hb3).put _ _ x1 (by decide)⟩, hSd.size, ok_of (Mach.At.zero (sys_good HSL.out)) (zero_held (sys_good HSL.out)), hSe.trans (putSt2_below hSd.size)⟩
        have HBF : Hid (Below w.heap.size w (putSt2 we wd.heap.size (.slice p1 1 d1) (.slice p2 1 d2))) := HBE.trans (putSt2_below HBD.size)
        have HWD : Hid (w.heap.size ≤ wd.heap.size) := HBD.size
        clear hI1 hI2 hu x1 hb3 hbd hSc hSd hSe HBC HBD HBE hec
        generalize putSt2 we wd.heap.size (.slice p1 1 d1) (.slice p2 1 d2) = wf at HX HBF ⊢
        have HXW : Hid (w.heap.size ≤ wd.heap.size) := HWD
        generalize wd.heap.size = xb at HX HXW ⊢
        go_wp2_with fail
        go_loopw [13, 20, 21, 22] (fun s13 s20 s21 s22 wr => ∃ (i : Nat) (y : St) (time wrong : Int), s13 = .int .i64 0 ∧ s20 = .int .i64 time ∧ s21 = .int .i64 wrong ∧ s22 = .int .i64 i ∧ i ≤ 200 ∧ Hid (WorIn (machOf ls) bad y i time wrong) ∧ WorSt wS wr ls xb y ∧ Below w.heap.size w wr) (fun _ _ _ s22 _ => 200 - (intOf s22).toNat)
        case atStart => exact ⟨0, St.zero, 0, 0, rfl, rfl, rfl, rfl, by omega, WorIn.start HLN1.out bad, HX.out, HBF.out⟩
        case round =>
          obtain ⟨i, y, time, wrong, rfl, rfl, rfl, rfl, hi, hin, H, HBr⟩ := hrel
          have hi2 := hin.out.few hb8
          have hfine := hin.out.fine HLN1.out hb8
          have hd200 : decide ((i : Int) < 200) = true := by simp; omega
          have c1 := blk_cell ((H.bl.block _ (row_lt HE1.out)).trans HE1.out) 0
          obtain ⟨v1, v2, hxr, hxs⟩ := H.x
          obtain ⟨xp1, xc1, xp2, xc2, hvv, hxi1, hxi2⟩ := hxs.two (by omega)
          simp only [Value.agg.injEq] at hvv
          obtain ⟨rfl, rfl⟩ : v1 = .slice xp1 ls.length xc1 ∧ v2 = .slice xp2 ls.length xc2 := by simpa using hvv
          rw [hls1] at hxr
          have a1 := blk_cell hxr 0
          have a2 := blk_cell hxr 1
          have hGl : GoalsQ ls (atL ls.length y) (failL ls.length y) wr = GoalsQ ls (atL ls.length y) (failL ls.length y) wr := rfl
          have hgo := lockGoalsN ls (some ⟨w3.heap.size, 0, none⟩) 1 wr (.agg #[.slice xp1 1 xc1, .slice xp2 1 xc2]) (atL ls.length y) (failL ls.length y) (HSP.out.below H.bl) (by
            refine ⟨_, _, rfl, ?_, ?_⟩
            · rw [hls1] at hxi1 ⊢; exact IntR.q hxi1
            · rw [hls1] at hxi2 ⊢; exact IntR.q hxi2)
          rw [hls1] at hgo
          clear hGl hvv hxi2
          go_wp2_with fail
          refine hgo.mono ?_
          clear hgo
          intro e wg hq
          rw [← hls1] at hq
          obtain ⟨rfl, hbg2⟩ := hq.good HSL.out H.ok
          clear hq
          have hbX := HBr.trans (hbg2.mono HBr.size)
          have Hg := H.below hbg2
          have c1g := (hbg2.cell (block_lt_of_cell c1)).trans c1
          have hxrg := (hbg2.block _ (row_lt hxr)).trans hxr
          have hxig := hxi1.below hbg2
          clear hbg2 HBr H c1 a1 a2 hxr hxi1 hxs
          cases hgv : goalS (machOf ls) y
          case true =>
            have hle2 : decide (time ≤ W) = true := by rw [HW.out]; exact decide_eq_true hfine.1
            clear Hg c1g hxrg hxig hgv
            go_wp2_with fail
            refine (worksN _ (HP.out.X.below hbX)).mono ?_
            rintro e wk ⟨rfl, hbk⟩
            go_wp2_with fail
            go_ret
            exact ⟨rfl, hbX.trans (hbk.mono hbX.size)⟩
          case false =>
            have hnx : 0 ≤ (machOf ls).next 0 (y.a 0).toNat := by
              rcases Int.lt_or_le ((machOf ls).next 0 (y.a 0).toNat) 0 with h | h
              · rw [goalS_yes (fun g' hg' => by
                  have : (machOf ls).n = ls.length := rfl
                  obtain rfl : g' = 0 := by omega
                  exact h)] at hgv
                cases hgv
              · exact h
            clear hgv
            go_upto_region 25 with fail
            have ev0 := heap_alloc_new wg (.cells #[.int .i64 0, .int .i64 0] 53)
            have hb10 : Below wg.heap.size wg (wg.alloc (.cells #[.int .i64 0, .int .i64 0] 53)) := (Below.refl _ _).alloc (Nat.le_refl _) _
            generalize wg.alloc (.cells #[.int .i64 0, .int .i64 0] 53) = wk at ev0 hb10 ⊢
            obtain ⟨eb, HEB⟩ : ∃ eb, Hid (wg.heap.size = eb) := ⟨_, by unfold Hid; rfl⟩
            rw [HEB.out] at ev0 ⊢
            have hd3 : 0 ≤ time + 60 ∧ time ≤ 5000 := ⟨by have := hin.out.t0; omega, hfine.2⟩
            by_cases hbl : 0 < bits.length
            · have hd1 : decide ((0 : Int) < (bits.length : Int)) = true := decide_eq_true (by omega)
              by_cases hwr : wrong < (bad : Int)
              · have hd2 : decide (wrong < (bad : Int)) = true := decide_eq_true hwr
                obtain ⟨pb', cb', ev', hcv⟩ := (HQ.out.below (hbX.trans (hb10.mono hbX.size))).at_
                simp only [Value.slice.injEq] at ev'
                obtain ⟨rfl, -, rfl⟩ := ev'
                obtain ⟨bb, ob, rfl, hbb, hcs⟩ := hcv hbl
                have hjl := Nat.mod_lt i hbl
                have cj := hcs (i % bits.length) hjl
                obtain ⟨ek, hek⟩ : ∃ ek, ek = bits[i % bits.length] := ⟨_, rfl⟩
                rw [← hek] at cj
                have hne : ((bits.length : Int) == 0) = false := by
                  rw [beq_eq_false_iff_ne]; omega
                have hrem : (i : Int).tmod (bits.length : Int) = ((i % bits.length : Nat) : Int) := by
                  rw [Int.tmod_eq_emod_of_nonneg (by omega)]; exact (Int.natCast_emod _ _).symm
                have f1 := frozen_of_row wk eb 1 _ _ ev0
                have e1 := blk_cell ev0 1
                clear hcs hcv hek
                generalize i % bits.length = j at *
                go_wp2_with fail
                refine (modN ek 3 (by omega) (by omega) _).mono ?_
                rintro e wn ⟨rfl, rfl⟩
                obtain ⟨k, hk⟩ : ∃ k, ek % 3 = k := ⟨_, rfl⟩
                have hkk : 0 ≤ k ∧ k ≤ 2 := by omega
                have hwk : k ≠ 0 → wrong < (bad : Int) := fun _ => hwr
                rw [hk]
                have ev : (wn.setCell ⟨eb, 1, none⟩ (.int .i64 k)).heap[eb]? = some (.cells #[.int .i64 0, .int .i64 k] 53 (0, 0)) := heap_setCell_same wn eb 1 _ _ (.int .i64 k) ev0
                have hbk : Below wg.heap.size wg (wn.setCell ⟨eb, 1, none⟩ (.int .i64 k)) := hb10.setCell (p := ⟨eb, 1, none⟩) (by rw [HEB.out]; exact Nat.le_refl _) _
                go_upto_region 27 with fail
                clear ev0 hb10 e1 f1 cj hk
                generalize wn.setCell ⟨eb, 1, none⟩ (.int .i64 k) = wk at ev hbk ⊢
                have e1 := blk_cell ev 1
                by_cases hkz : k = 0
                · subst hkz
                  go_upto_region 29 with fail
                  clear e1
                  have Hk := Hg.below hbk
                  have hbXk := hbX.trans (hbk.mono hbX.size)
                  have c1k := (hbk.cell (block_lt_of_cell c1g)).trans c1g
                  have hxrk := (hbk.block _ (row_lt hxrg)).trans hxrg
                  have hxik := hxig.below hbk
                  obtain ⟨xb1, xo, xcu, hxe, hxb2, hxc⟩ := hxik.rung (show ls.length ≤ 3 by omega) (by omega)
                  obtain ⟨rfl, rfl⟩ : xp1 = some ⟨xb1, xo, none⟩ ∧ xc1 = xcu := by simpa using hxe
                  have x00 := hxc 0 (by omega)
                  rw [Nat.add_zero] at x00
                  have ha0 := hin.out.at_.a 0 (show 0 < ls.length by omega)
                  have hMr : (machOf ls).rungs 0 = nr := hlr
                  obtain ⟨k0, hk0⟩ : ∃ k0 : Nat, y.a 0 = (k0 : Int) := ⟨(y.a 0).toNat, by omega⟩
                  have hk0n : k0 < nr := by omega
                  have hk0t : (y.a 0).toNat = k0 := by omega
                  rw [hk0] at x00
                  obtain ⟨br', or', hbe, hbr', hcr'⟩ := (HRS.out.below Hk.bl).at_ (by omega)
                  obtain ⟨rfl, rfl⟩ : rb = br' ∧ 0 = or' := by simpa using hbe
                  obtain ⟨q1, d1, q2, d2, hRA⟩ := hcr' k0 (by omega)
                  have hmin := hRA.d4
                  rw [Nat.zero_add] at hmin
                  have hmm : ((rungsAt ls 0)[k0]'(by omega)).minutes = (machOf ls).mins 0 k0 := by
                    show _ = (rgAt ls 0 k0).minutes
                    rw [rgAt_get (by omega)]
                  rw [hmm] at hmin
                  have hmr := (sys_good HSL.out).mins 0 k0 (show 0 < ls.length by omega) (by omega)
                  obtain ⟨mn, HMN⟩ : ∃ mn, Hid (mn = (machOf ls).mins 0 k0) := ⟨_, by unfold Hid; rfl⟩
                  rw [← HMN.out] at hmin hmr
                  have a1 := blk_cell hxrk 0
                  have a2 := blk_cell hxrk 1
                  have e0 := blk_cell ev 0
                  have e1 := blk_cell ev 1
                  have hinq : (decide ((0 : Int) ≤ (k0 : Int)) && decide ((k0 : Int) ≤ (nr : Int) - 1)) = true := by
                    rw [decide_eq_true (by omega), decide_eq_true (by omega)]; rfl
                  have hstep := hin.out.step HLN1.out (k := 0) hkk hwk hnx
                  rw [hk0t, ← HMN.out, if_pos rfl] at hstep
                  have hQk : StatQ wk (.agg #[.slice (some ⟨xb1, xo, none⟩) 1 xc1, .slice xp2 1 xc2]) (atL ls.length y) (failL ls.length y) := by
                    obtain ⟨t1, t2, hxr4, hxs4⟩ := Hk.x
                    rw [hxrk] at hxr4
                    obtain ⟨rfl, rfl⟩ : t1 = .slice (some ⟨xb1, xo, none⟩) 1 xc1 ∧ t2 = .slice xp2 1 xc2 := by simpa [eq_comm] using hxr4
                    obtain ⟨t3, t4, ht, h5, h6⟩ := hxs4
                    obtain ⟨rfl, rfl⟩ : t3 = .slice (some ⟨xb1, xo, none⟩) 1 xc1 ∧ t4 = .slice xp2 1 xc2 := by simpa [eq_comm] using ht
                    exact ⟨_, _, rfl, IntR.q h5, IntR.q h6⟩
                  have hMv := lockMoveN ls (some ⟨w3.heap.size, 0, none⟩) 1 wk (.agg #[.slice (some ⟨xb1, xo, none⟩) 1 xc1, .slice xp2 1 xc2]) (atL ls.length y) (failL ls.length y) ⟨0, 0⟩ (HSP.out.below Hk.bl) hQk
                  rw [hls1] at hMv
                  have HMV := Lib.hid hMv
                  have hok := Hk.ok
                  rw [hls1] at hok
                  have HOK := Lib.hid hok
                  have hev : okEv (machOf ls) ⟨0, 0⟩ = true := okEv_iff.2 ⟨by show (0 : Int) ≤ 0; omega, by show (0 : Int) < (ls.length : Int); omega, hkk⟩
                  have hzk : StOK ls (atL ls.length (moveS (machOf ls) y ⟨0, 0⟩)) (failL ls.length (moveS (machOf ls) y ⟨0, 0⟩)) (moveS (machOf ls) y ⟨0, 0⟩) := ok_of (move_at (sys_good HSL.out) Hk.ok.at_ hev) (move_holds (sys_good HSL.out) Hk.ok.at_ hev)
                  have HSTEP := Lib.hid hstep
                  clear hMv hQk hstep hok hRA hcr' hbe hbr' hxc hxe hxik hmm hMr ha0 hxig hxrg c1g Hg hbX hbk
                  go_wp2_with fail
                  refine (inN _ _ _ _).mono ?_
                  rintro e wn ⟨rfl, rfl⟩
                  rw [hinq]
                  go_upto_region 32 with fail
                  refine wp_region_lit ?_
                  refine wpList_plain rfl (fun K hK => ?_)
                  go_simp
                  refine hK _ _ ?_
                  clear hK K
                  try simp only [Act.put, List.getElem_toArray, List.getElem_cons_succ, List.getElem_cons_zero, List.setIfInBounds_toArray, List.set_cons_zero, List.set_cons_succ]
                  refine wpList_plain rfl (fun K hK => ?_)
                  go_simp
                  refine hK _ _ ?_
                  clear hK K
                  try simp only [Act.put, List.getElem_toArray, List.getElem_cons_succ, List.getElem_cons_zero, List.setIfInBounds_toArray, List.set_cons_zero, List.set_cons_succ]
                  refine wpList_plain rfl (fun K hK => ?_)
                  go_simp
                  refine hK _ _ ?_
                  clear hK K
                  try simp only [Act.put, List.getElem_toArray, List.getElem_cons_succ, List.getElem_cons_zero, List.setIfInBounds_toArray, List.set_cons_zero, List.set_cons_succ]
                  refine wpList_plain rfl (fun K hK => ?_)
                  go_simp
                  refine HMV.out.mono ?_
                  intro e w5 hq
                  obtain ⟨hb5, u, rfl, hu⟩ := hq.fine HSL.out HOK.out hev
                  have H5 := Hk.below hb5
                  have hxr5 := (hb5.block _ (row_lt hxrk)).trans hxrk
                  have hbX5 := hbXk.trans (hb5.mono hbXk.size)
                  have hu0 := hu.base (Nat.zero_le _)
                  rw [hls1] at hu
                  obtain ⟨zp1, zc1, zp2, zc2, rfl, -, -⟩ := hu.two (by omega)
                  refine hK _ _ ?_
                  clear hK K hq hu Hk hxrk hbXk a1 a2 e0 e1 x00 hmin ev c1k
                  try simp only [Act.put, List.getElem_toArray, List.getElem_cons_succ, List.getElem_cons_zero, List.setIfInBounds_toArray, List.set_cons_zero, List.set_cons_succ]
                  refine wpList_plain rfl (fun K hK => ?_)
                  go_simp
                  refine hK _ _ ?_
                  clear hK K
                  try simp only [Act.put, List.getElem_toArray, List.getElem_cons_succ, List.getElem_cons_zero, List.setIfInBounds_toArray, List.set_cons_zero, List.set_cons_succ]
                  refine wpList_plain rfl (fun K hK => ?_)
                  go_simp
                  refine hK _ _ ?_
                  clear hK K
                  try simp only [Act.put, List.getElem_toArray, List.getElem_cons_succ, List.getElem_cons_zero, List.setIfInBounds_toArray, List.set_cons_zero, List.set_cons_succ]
                  refine wpList_plain rfl (fun K hK => ?_)
                  go_simp
                  refine hK _ _ ?_
                  clear hK K
                  try simp only [Act.put, List.getElem_toArray, List.getElem_cons_succ, List.getElem_cons_zero, List.setIfInBounds_toArray, List.set_cons_zero, List.set_cons_succ]
                  have q0 := blk_cell hxr5 0
                  have q1 := blk_cell hxr5 1
                  have f0 := frozen_of_row w5 xb 0 _ _ hxr5
                  have f1 := frozen_of_row w5 xb 1 _ _ hxr5
                  refine wpList_plain rfl (fun K hK => ?_)
                  go_simp
                  refine hK _ _ ?_
                  clear hK K
                  try simp only [Act.put, List.getElem_toArray, List.getElem_cons_succ, List.getElem_cons_zero, List.setIfInBounds_toArray, List.set_cons_zero, List.set_cons_succ]
                  change wpList _ _ _ _ _ (putSt2 w5 xb (.slice zp1 1 zc1) (.slice zp2 1 zc2))
                  clear q0 q1 f0 f1
                  have H6 := H5.put hu0 hzk
                  have hxw := HXW.out
                  have hbX6 : Below w.heap.size w (putSt2 w5 xb (.slice zp1 1 zc1) (.slice zp2 1 zc2)) := hbX5.trans (putSt2_below hxw)
                  clear H5 hxr5 hu0 hzk hbX5
                  generalize putSt2 w5 xb (.slice zp1 1 zc1) (.slice zp2 1 zc2) = w6' at H6 hbX6 ⊢
                  go_wp2_with fail
                  go_roundw
                  case rel => exact ⟨i + 1, _, time + mn, wrong, rfl, by go_num, by go_num, by go_num, by omega, HSTEP, H6, hbX6⟩
                  case measure => simp [intOf]; omega
                · have hkne : (k != 0) = true := by simp [hkz]
                  have hw0 := hin.out.w0
                  go_upto_region 29 with fail
                  clear e1
                  have Hk := Hg.below hbk
                  have hbXk := hbX.trans (hbk.mono hbX.size)
                  have c1k := (hbk.cell (block_lt_of_cell c1g)).trans c1g
                  have hxrk := (hbk.block _ (row_lt hxrg)).trans hxrg
                  have hxik := hxig.below hbk
                  obtain ⟨xb1, xo, xcu, hxe, hxb2, hxc⟩ := hxik.rung (show ls.length ≤ 3 by omega) (by omega)
                  obtain ⟨rfl, rfl⟩ : xp1 = some ⟨xb1, xo, none⟩ ∧ xc1 = xcu := by simpa using hxe
                  have x00 := hxc 0 (by omega)
                  rw [Nat.add_zero] at x00
                  have ha0 := hin.out.at_.a 0 (show 0 < ls.length by omega)
                  have hMr : (machOf ls).rungs 0 = nr := hlr
                  obtain ⟨k0, hk0⟩ : ∃ k0 : Nat, y.a 0 = (k0 : Int) := ⟨(y.a 0).toNat, by omega⟩
                  have hk0n : k0 < nr := by omega
                  have hk0t : (y.a 0).toNat = k0 := by omega
                  rw [hk0] at x00
                  obtain ⟨br', or', hbe, hbr', hcr'⟩ := (HRS.out.below Hk.bl).at_ (by omega)
                  obtain ⟨rfl, rfl⟩ : rb = br' ∧ 0 = or' := by simpa using hbe
                  obtain ⟨q1, d1, q2, d2, hRA⟩ := hcr' k0 (by omega)
                  have hmin := hRA.d4
                  rw [Nat.zero_add] at hmin
                  have hmm : ((rungsAt ls 0)[k0]'(by omega)).minutes = (machOf ls).mins 0 k0 := by
                    show _ = (rgAt ls 0 k0).minutes
                    rw [rgAt_get (by omega)]
                  rw [hmm] at hmin
                  have hmr := (sys_good HSL.out).mins 0 k0 (show 0 < ls.length by omega) (by omega)
                  obtain ⟨mn, HMN⟩ : ∃ mn, Hid (mn = (machOf ls).mins 0 k0) := ⟨_, by unfold Hid; rfl⟩
                  rw [← HMN.out] at hmin hmr
                  have a1 := blk_cell hxrk 0
                  have a2 := blk_cell hxrk 1
                  have e0 := blk_cell ev 0
                  have e1 := blk_cell ev 1
                  have hinq : (decide ((0 : Int) ≤ (k0 : Int)) && decide ((k0 : Int) ≤ (nr : Int) - 1)) = true := by
                    rw [decide_eq_true (by omega), decide_eq_true (by omega)]; rfl
                  have hstep := hin.out.step HLN1.out (k := k) hkk hwk hnx
                  rw [hk0t, ← HMN.out, if_neg hkz] at hstep
                  have hQk : StatQ wk (.agg #[.slice (some ⟨xb1, xo, none⟩) 1 xc1, .slice xp2 1 xc2]) (atL ls.length y) (failL ls.length y) := by
                    obtain ⟨t1, t2, hxr4, hxs4⟩ := Hk.x
                    rw [hxrk] at hxr4
                    obtain ⟨rfl, rfl⟩ : t1 = .slice (some ⟨xb1, xo, none⟩) 1 xc1 ∧ t2 = .slice xp2 1 xc2 := by simpa [eq_comm] using hxr4
                    obtain ⟨t3, t4, ht, h5, h6⟩ := hxs4
                    obtain ⟨rfl, rfl⟩ : t3 = .slice (some ⟨xb1, xo, none⟩) 1 xc1 ∧ t4 = .slice xp2 1 xc2 := by simpa [eq_comm] using ht
                    exact ⟨_, _, rfl, IntR.q h5, IntR.q h6⟩
                  have hMv := lockMoveN ls (some ⟨w3.heap.size, 0, none⟩) 1 wk (.agg #[.slice (some ⟨xb1, xo, none⟩) 1 xc1, .slice xp2 1 xc2]) (atL ls.length y) (failL ls.length y) ⟨0, k⟩ (HSP.out.below Hk.bl) hQk
                  rw [hls1] at hMv
                  have HMV := Lib.hid hMv
                  have hok := Hk.ok
                  rw [hls1] at hok
                  have HOK := Lib.hid hok
                  have hev : okEv (machOf ls) ⟨0, k⟩ = true := okEv_iff.2 ⟨by show (0 : Int) ≤ 0; omega, by show (0 : Int) < (ls.length : Int); omega, hkk⟩
                  have hzk : StOK ls (atL ls.length (moveS (machOf ls) y ⟨0, k⟩)) (failL ls.length (moveS (machOf ls) y ⟨0, k⟩)) (moveS (machOf ls) y ⟨0, k⟩) := ok_of (move_at (sys_good HSL.out) Hk.ok.at_ hev) (move_holds (sys_good HSL.out) Hk.ok.at_ hev)
                  have HSTEP := Lib.hid hstep
                  clear hMv hQk hstep hok hRA hcr' hbe hbr' hxc hxe hxik hmm hMr ha0 hxig hxrg c1g Hg hbX hbk
                  go_wp2_with fail
                  refine (inN _ _ _ _).mono ?_
                  rintro e wn ⟨rfl, rfl⟩
                  rw [hinq]
                  go_upto_region 32 with fail
                  refine wp_region_lit ?_
                  refine wpList_plain rfl (fun K hK => ?_)
                  go_simp
                  refine hK _ _ ?_
                  clear hK K
                  try simp only [Act.put, List.getElem_toArray, List.getElem_cons_succ, List.getElem_cons_zero, List.setIfInBounds_toArray, List.set_cons_zero, List.set_cons_succ]
                  refine wpList_plain rfl (fun K hK => ?_)
                  go_simp
                  refine hK _ _ ?_
                  clear hK K
                  try simp only [Act.put, List.getElem_toArray, List.getElem_cons_succ, List.getElem_cons_zero, List.setIfInBounds_toArray, List.set_cons_zero, List.set_cons_succ]
                  refine wpList_plain rfl (fun K hK => ?_)
                  go_simp
                  refine hK _ _ ?_
                  clear hK K
                  try simp only [Act.put, List.getElem_toArray, List.getElem_cons_succ, List.getElem_cons_zero, List.setIfInBounds_toArray, List.set_cons_zero, List.set_cons_succ]
                  refine wpList_plain rfl (fun K hK => ?_)
                  go_simp
                  refine HMV.out.mono ?_
                  intro e w5 hq
                  obtain ⟨hb5, u, rfl, hu⟩ := hq.fine HSL.out HOK.out hev
                  have H5 := Hk.below hb5
                  have hxr5 := (hb5.block _ (row_lt hxrk)).trans hxrk
                  have hbX5 := hbXk.trans (hb5.mono hbXk.size)
                  have hu0 := hu.base (Nat.zero_le _)
                  rw [hls1] at hu
                  obtain ⟨zp1, zc1, zp2, zc2, rfl, -, -⟩ := hu.two (by omega)
                  refine hK _ _ ?_
                  clear hK K hq hu Hk hxrk hbXk a1 a2 e0 e1 x00 hmin ev c1k
                  try simp only [Act.put, List.getElem_toArray, List.getElem_cons_succ, List.getElem_cons_zero, List.setIfInBounds_toArray, List.set_cons_zero, List.set_cons_succ]
                  refine wpList_plain rfl (fun K hK => ?_)
                  go_simp
                  refine hK _ _ ?_
                  clear hK K
                  try simp only [Act.put, List.getElem_toArray, List.getElem_cons_succ, List.getElem_cons_zero, List.setIfInBounds_toArray, List.set_cons_zero, List.set_cons_succ]
                  refine wpList_plain rfl (fun K hK => ?_)
                  go_simp
                  refine hK _ _ ?_
                  clear hK K
                  try simp only [Act.put, List.getElem_toArray, List.getElem_cons_succ, List.getElem_cons_zero, List.setIfInBounds_toArray, List.set_cons_zero, List.set_cons_succ]
                  refine wpList_plain rfl (fun K hK => ?_)
                  go_simp
                  refine hK _ _ ?_
                  clear hK K
                  try simp only [Act.put, List.getElem_toArray, List.getElem_cons_succ, List.getElem_cons_zero, List.setIfInBounds_toArray, List.set_cons_zero, List.set_cons_succ]
                  have q0 := blk_cell hxr5 0
                  have q1 := blk_cell hxr5 1
                  have f0 := frozen_of_row w5 xb 0 _ _ hxr5
                  have f1 := frozen_of_row w5 xb 1 _ _ hxr5
                  refine wpList_plain rfl (fun K hK => ?_)
                  go_simp
                  refine hK _ _ ?_
                  clear hK K
                  try simp only [Act.put, List.getElem_toArray, List.getElem_cons_succ, List.getElem_cons_zero, List.setIfInBounds_toArray, List.set_cons_zero, List.set_cons_succ]
                  change wpList _ _ _ _ _ (putSt2 w5 xb (.slice zp1 1 zc1) (.slice zp2 1 zc2))
                  clear q0 q1 f0 f1
                  have H6 := H5.put hu0 hzk
                  have hxw := HXW.out
                  have hbX6 : Below w.heap.size w (putSt2 w5 xb (.slice zp1 1 zc1) (.slice zp2 1 zc2)) := hbX5.trans (putSt2_below hxw)
                  clear H5 hxr5 hu0 hzk hbX5
                  generalize putSt2 w5 xb (.slice zp1 1 zc1) (.slice zp2 1 zc2) = w6' at H6 hbX6 ⊢
                  go_wp2_with fail
                  go_roundw
                  case rel => exact ⟨i + 1, _, time + mn, wrong + 1, rfl, by go_num, by go_num, by go_num, by omega, HSTEP, H6, hbX6⟩
                  case measure => simp [intOf]; omega
              · have hd2 : decide (wrong < (bad : Int)) = false := decide_eq_false hwr
                have ev := ev0
                have hbk := hb10
                have e1 := blk_cell ev 1
                have hkk : (0 : Int) ≤ 0 ∧ (0 : Int) ≤ 2 := by omega
                have hwk : (0 : Int) ≠ 0 → wrong < (bad : Int) := fun h => absurd rfl h
                clear ev0 hb10
                go_upto_region 29 with fail
                clear e1
                have Hk := Hg.below hbk
                have hbXk := hbX.trans (hbk.mono hbX.size)
                have c1k := (hbk.cell (block_lt_of_cell c1g)).trans c1g
                have hxrk := (hbk.block _ (row_lt hxrg)).trans hxrg
                have hxik := hxig.below hbk
                obtain ⟨xb1, xo, xcu, hxe, hxb2, hxc⟩ := hxik.rung (show ls.length ≤ 3 by omega) (by omega)
                obtain ⟨rfl, rfl⟩ : xp1 = some ⟨xb1, xo, none⟩ ∧ xc1 = xcu := by simpa using hxe
                have x00 := hxc 0 (by omega)
                rw [Nat.add_zero] at x00
                have ha0 := hin.out.at_.a 0 (show 0 < ls.length by omega)
                have hMr : (machOf ls).rungs 0 = nr := hlr
                obtain ⟨k0, hk0⟩ : ∃ k0 : Nat, y.a 0 = (k0 : Int) := ⟨(y.a 0).toNat, by omega⟩
                have hk0n : k0 < nr := by omega
                have hk0t : (y.a 0).toNat = k0 := by omega
                rw [hk0] at x00
                obtain ⟨br', or', hbe, hbr', hcr'⟩ := (HRS.out.below Hk.bl).at_ (by omega)
                obtain ⟨rfl, rfl⟩ : rb = br' ∧ 0 = or' := by simpa using hbe
                obtain ⟨q1, d1, q2, d2, hRA⟩ := hcr' k0 (by omega)
                have hmin := hRA.d4
                rw [Nat.zero_add] at hmin
                have hmm : ((rungsAt ls 0)[k0]'(by omega)).minutes = (machOf ls).mins 0 k0 := by
                  show _ = (rgAt ls 0 k0).minutes
                  rw [rgAt_get (by omega)]
                rw [hmm] at hmin
                have hmr := (sys_good HSL.out).mins 0 k0 (show 0 < ls.length by omega) (by omega)
                obtain ⟨mn, HMN⟩ : ∃ mn, Hid (mn = (machOf ls).mins 0 k0) := ⟨_, by unfold Hid; rfl⟩
                rw [← HMN.out] at hmin hmr
                have a1 := blk_cell hxrk 0
                have a2 := blk_cell hxrk 1
                have e0 := blk_cell ev 0
                have e1 := blk_cell ev 1
                have hinq : (decide ((0 : Int) ≤ (k0 : Int)) && decide ((k0 : Int) ≤ (nr : Int) - 1)) = true := by
                  rw [decide_eq_true (by omega), decide_eq_true (by omega)]; rfl
                have hstep := hin.out.step HLN1.out (k := 0) hkk hwk hnx
                rw [hk0t, ← HMN.out, if_pos rfl] at hstep
                have hQk : StatQ wk (.agg #[.slice (some ⟨xb1, xo, none⟩) 1 xc1, .slice xp2 1 xc2]) (atL ls.length y) (failL ls.length y) := by
                  obtain ⟨t1, t2, hxr4, hxs4⟩ := Hk.x
                  rw [hxrk] at hxr4
                  obtain ⟨rfl, rfl⟩ : t1 = .slice (some ⟨xb1, xo, none⟩) 1 xc1 ∧ t2 = .slice xp2 1 xc2 := by simpa [eq_comm] using hxr4
                  obtain ⟨t3, t4, ht, h5, h6⟩ := hxs4
                  obtain ⟨rfl, rfl⟩ : t3 = .slice (some ⟨xb1, xo, none⟩) 1 xc1 ∧ t4 = .slice xp2 1 xc2 := by simpa [eq_comm] using ht
                  exact ⟨_, _, rfl, IntR.q h5, IntR.q h6⟩
                have hMv := lockMoveN ls (some ⟨w3.heap.size, 0, none⟩) 1 wk (.agg #[.slice (some ⟨xb1, xo, none⟩) 1 xc1, .slice xp2 1 xc2]) (atL ls.length y) (failL ls.length y) ⟨0, 0⟩ (HSP.out.below Hk.bl) hQk
                rw [hls1] at hMv
                have HMV := Lib.hid hMv
                have hok := Hk.ok
                rw [hls1] at hok
                have HOK := Lib.hid hok
                have hev : okEv (machOf ls) ⟨0, 0⟩ = true := okEv_iff.2 ⟨by show (0 : Int) ≤ 0; omega, by show (0 : Int) < (ls.length : Int); omega, hkk⟩
                have hzk : StOK ls (atL ls.length (moveS (machOf ls) y ⟨0, 0⟩)) (failL ls.length (moveS (machOf ls) y ⟨0, 0⟩)) (moveS (machOf ls) y ⟨0, 0⟩) := ok_of (move_at (sys_good HSL.out) Hk.ok.at_ hev) (move_holds (sys_good HSL.out) Hk.ok.at_ hev)
                have HSTEP := Lib.hid hstep
                clear hMv hQk hstep hok hRA hcr' hbe hbr' hxc hxe hxik hmm hMr ha0 hxig hxrg c1g Hg hbX hbk
                go_wp2_with fail
                refine (inN _ _ _ _).mono ?_
                rintro e wn ⟨rfl, rfl⟩
                rw [hinq]
                go_upto_region 32 with fail
                refine wp_region_lit ?_
                refine wpList_plain rfl (fun K hK => ?_)
                go_simp
                refine hK _ _ ?_
                clear hK K
                try simp only [Act.put, List.getElem_toArray, List.getElem_cons_succ, List.getElem_cons_zero, List.setIfInBounds_toArray, List.set_cons_zero, List.set_cons_succ]
                refine wpList_plain rfl (fun K hK => ?_)
                go_simp
                refine hK _ _ ?_
                clear hK K
                try simp only [Act.put, List.getElem_toArray, List.getElem_cons_succ, List.getElem_cons_zero, List.setIfInBounds_toArray, List.set_cons_zero, List.set_cons_succ]
                refine wpList_plain rfl (fun K hK => ?_)
                go_simp
                refine hK _ _ ?_
                clear hK K
                try simp only [Act.put, List.getElem_toArray, List.getElem_cons_succ, List.getElem_cons_zero, List.setIfInBounds_toArray, List.set_cons_zero, List.set_cons_succ]
                refine wpList_plain rfl (fun K hK => ?_)
                go_simp
                refine HMV.out.mono ?_
                intro e w5 hq
                obtain ⟨hb5, u, rfl, hu⟩ := hq.fine HSL.out HOK.out hev
                have H5 := Hk.below hb5
                have hxr5 := (hb5.block _ (row_lt hxrk)).trans hxrk
                have hbX5 := hbXk.trans (hb5.mono hbXk.size)
                have hu0 := hu.base (Nat.zero_le _)
                rw [hls1] at hu
                obtain ⟨zp1, zc1, zp2, zc2, rfl, -, -⟩ := hu.two (by omega)
                refine hK _ _ ?_
                clear hK K hq hu Hk hxrk hbXk a1 a2 e0 e1 x00 hmin ev c1k
                try simp only [Act.put, List.getElem_toArray, List.getElem_cons_succ, List.getElem_cons_zero, List.setIfInBounds_toArray, List.set_cons_zero, List.set_cons_succ]
                refine wpList_plain rfl (fun K hK => ?_)
                go_simp
                refine hK _ _ ?_
                clear hK K
                try simp only [Act.put, List.getElem_toArray, List.getElem_cons_succ, List.getElem_cons_zero, List.setIfInBounds_toArray, List.set_cons_zero, List.set_cons_succ]
                refine wpList_plain rfl (fun K hK => ?_)
                go_simp
                refine hK _ _ ?_
                clear hK K
                try simp only [Act.put, List.getElem_toArray, List.getElem_cons_succ, List.getElem_cons_zero, List.setIfInBounds_toArray, List.set_cons_zero, List.set_cons_succ]
                refine wpList_plain rfl (fun K hK => ?_)
                go_simp
                refine hK _ _ ?_
                clear hK K
                try simp only [Act.put, List.getElem_toArray, List.getElem_cons_succ, List.getElem_cons_zero, List.setIfInBounds_toArray, List.set_cons_zero, List.set_cons_succ]
                have q0 := blk_cell hxr5 0
                have q1 := blk_cell hxr5 1
                have f0 := frozen_of_row w5 xb 0 _ _ hxr5
                have f1 := frozen_of_row w5 xb 1 _ _ hxr5
                refine wpList_plain rfl (fun K hK => ?_)
                go_simp
                refine hK _ _ ?_
                clear hK K
                try simp only [Act.put, List.getElem_toArray, List.getElem_cons_succ, List.getElem_cons_zero, List.setIfInBounds_toArray, List.set_cons_zero, List.set_cons_succ]
                change wpList _ _ _ _ _ (putSt2 w5 xb (.slice zp1 1 zc1) (.slice zp2 1 zc2))
                clear q0 q1 f0 f1
                have H6 := H5.put hu0 hzk
                have hxw := HXW.out
                have hbX6 : Below w.heap.size w (putSt2 w5 xb (.slice zp1 1 zc1) (.slice zp2 1 zc2)) := hbX5.trans (putSt2_below hxw)
                clear H5 hxr5 hu0 hzk hbX5
                generalize putSt2 w5 xb (.slice zp1 1 zc1) (.slice zp2 1 zc2) = w6' at H6 hbX6 ⊢
                go_wp2_with fail
                go_roundw
                case rel => exact ⟨i + 1, _, time + mn, wrong, rfl, by go_num, by go_num, by go_num, by omega, HSTEP, H6, hbX6⟩
                case measure => simp [intOf]; omega
            · have hd1 : decide ((0 : Int) < (bits.length : Int)) = false := decide_eq_false (by omega)
              have ev := ev0
              have hbk := hb10
              have e1 := blk_cell ev 1
              have hkk : (0 : Int) ≤ 0 ∧ (0 : Int) ≤ 2 := by omega
              have hwk : (0 : Int) ≠ 0 → wrong < (bad : Int) := fun h => absurd rfl h
              clear ev0 hb10
              go_upto_region 29 with fail
              clear e1
              have Hk := Hg.below hbk
              have hbXk := hbX.trans (hbk.mono hbX.size)
              have c1k := (hbk.cell (block_lt_of_cell c1g)).trans c1g
              have hxrk := (hbk.block _ (row_lt hxrg)).trans hxrg
              have hxik := hxig.below hbk
              obtain ⟨xb1, xo, xcu, hxe, hxb2, hxc⟩ := hxik.rung (show ls.length ≤ 3 by omega) (by omega)
              obtain ⟨rfl, rfl⟩ : xp1 = some ⟨xb1, xo, none⟩ ∧ xc1 = xcu := by simpa using hxe
              have x00 := hxc 0 (by omega)
              rw [Nat.add_zero] at x00
              have ha0 := hin.out.at_.a 0 (show 0 < ls.length by omega)
              have hMr : (machOf ls).rungs 0 = nr := hlr
              obtain ⟨k0, hk0⟩ : ∃ k0 : Nat, y.a 0 = (k0 : Int) := ⟨(y.a 0).toNat, by omega⟩
              have hk0n : k0 < nr := by omega
              have hk0t : (y.a 0).toNat = k0 := by omega
              rw [hk0] at x00
              obtain ⟨br', or', hbe, hbr', hcr'⟩ := (HRS.out.below Hk.bl).at_ (by omega)
              obtain ⟨rfl, rfl⟩ : rb = br' ∧ 0 = or' := by simpa using hbe
              obtain ⟨q1, d1, q2, d2, hRA⟩ := hcr' k0 (by omega)
              have hmin := hRA.d4
              rw [Nat.zero_add] at hmin
              have hmm : ((rungsAt ls 0)[k0]'(by omega)).minutes = (machOf ls).mins 0 k0 := by
                show _ = (rgAt ls 0 k0).minutes
                rw [rgAt_get (by omega)]
              rw [hmm] at hmin
              have hmr := (sys_good HSL.out).mins 0 k0 (show 0 < ls.length by omega) (by omega)
              obtain ⟨mn, HMN⟩ : ∃ mn, Hid (mn = (machOf ls).mins 0 k0) := ⟨_, by unfold Hid; rfl⟩
              rw [← HMN.out] at hmin hmr
              have a1 := blk_cell hxrk 0
              have a2 := blk_cell hxrk 1
              have e0 := blk_cell ev 0
              have e1 := blk_cell ev 1
              have hinq : (decide ((0 : Int) ≤ (k0 : Int)) && decide ((k0 : Int) ≤ (nr : Int) - 1)) = true := by
                rw [decide_eq_true (by omega), decide_eq_true (by omega)]; rfl
              have hstep := hin.out.step HLN1.out (k := 0) hkk hwk hnx
              rw [hk0t, ← HMN.out, if_pos rfl] at hstep
              have hQk : StatQ wk (.agg #[.slice (some ⟨xb1, xo, none⟩) 1 xc1, .slice xp2 1 xc2]) (atL ls.length y) (failL ls.length y) := by
                obtain ⟨t1, t2, hxr4, hxs4⟩ := Hk.x
                rw [hxrk] at hxr4
                obtain ⟨rfl, rfl⟩ : t1 = .slice (some ⟨xb1, xo, none⟩) 1 xc1 ∧ t2 = .slice xp2 1 xc2 := by simpa [eq_comm] using hxr4
                obtain ⟨t3, t4, ht, h5, h6⟩ := hxs4
                obtain ⟨rfl, rfl⟩ : t3 = .slice (some ⟨xb1, xo, none⟩) 1 xc1 ∧ t4 = .slice xp2 1 xc2 := by simpa [eq_comm] using ht
                exact ⟨_, _, rfl, IntR.q h5, IntR.q h6⟩
              have hMv := lockMoveN ls (some ⟨w3.heap.size, 0, none⟩) 1 wk (.agg #[.slice (some ⟨xb1, xo, none⟩) 1 xc1, .slice xp2 1 xc2]) (atL ls.length y) (failL ls.length y) ⟨0, 0⟩ (HSP.out.below Hk.bl) hQk
              rw [hls1] at hMv
              have HMV := Lib.hid hMv
              have hok := Hk.ok
              rw [hls1] at hok
              have HOK := Lib.hid hok
              have hev : okEv (machOf ls) ⟨0, 0⟩ = true := okEv_iff.2 ⟨by show (0 : Int) ≤ 0; omega, by show (0 : Int) < (ls.length : Int); omega, hkk⟩
              have hzk : StOK ls (atL ls.length (moveS (machOf ls) y ⟨0, 0⟩)) (failL ls.length (moveS (machOf ls) y ⟨0, 0⟩)) (moveS (machOf ls) y ⟨0, 0⟩) := ok_of (move_at (sys_good HSL.out) Hk.ok.at_ hev) (move_holds (sys_good HSL.out) Hk.ok.at_ hev)
              have HSTEP := Lib.hid hstep
              clear hMv hQk hstep hok hRA hcr' hbe hbr' hxc hxe hxik hmm hMr ha0 hxig hxrg c1g Hg hbX hbk
              go_wp2_with fail
              refine (inN _ _ _ _).mono ?_
              rintro e wn ⟨rfl, rfl⟩
              rw [hinq]
              go_upto_region 32 with fail
              refine wp_region_lit ?_
              refine wpList_plain rfl (fun K hK => ?_)
              go_simp
              refine hK _ _ ?_
              clear hK K
              try simp only [Act.put, List.getElem_toArray, List.getElem_cons_succ, List.getElem_cons_zero, List.setIfInBounds_toArray, List.set_cons_zero, List.set_cons_succ]
              refine wpList_plain rfl (fun K hK => ?_)
              go_simp
              refine hK _ _ ?_
              clear hK K
              try simp only [Act.put, List.getElem_toArray, List.getElem_cons_succ, List.getElem_cons_zero, List.setIfInBounds_toArray, List.set_cons_zero, List.set_cons_succ]
              refine wpList_plain rfl (fun K hK => ?_)
              go_simp
              refine hK _ _ ?_
              clear hK K
              try simp only [Act.put, List.getElem_toArray, List.getElem_cons_succ, List.getElem_cons_zero, List.setIfInBounds_toArray, List.set_cons_zero, List.set_cons_succ]
              refine wpList_plain rfl (fun K hK => ?_)
              go_simp
              refine HMV.out.mono ?_
              intro e w5 hq
              obtain ⟨hb5, u, rfl, hu⟩ := hq.fine HSL.out HOK.out hev
              have H5 := Hk.below hb5
              have hxr5 := (hb5.block _ (row_lt hxrk)).trans hxrk
              have hbX5 := hbXk.trans (hb5.mono hbXk.size)
              have hu0 := hu.base (Nat.zero_le _)
              rw [hls1] at hu
              obtain ⟨zp1, zc1, zp2, zc2, rfl, -, -⟩ := hu.two (by omega)
              refine hK _ _ ?_
              clear hK K hq hu Hk hxrk hbXk a1 a2 e0 e1 x00 hmin ev c1k
              try simp only [Act.put, List.getElem_toArray, List.getElem_cons_succ, List.getElem_cons_zero, List.setIfInBounds_toArray, List.set_cons_zero, List.set_cons_succ]
              refine wpList_plain rfl (fun K hK => ?_)
              go_simp
              refine hK _ _ ?_
              clear hK K
              try simp only [Act.put, List.getElem_toArray, List.getElem_cons_succ, List.getElem_cons_zero, List.setIfInBounds_toArray, List.set_cons_zero, List.set_cons_succ]
              refine wpList_plain rfl (fun K hK => ?_)
              go_simp
              refine hK _ _ ?_
              clear hK K
              try simp only [Act.put, List.getElem_toArray, List.getElem_cons_succ, List.getElem_cons_zero, List.setIfInBounds_toArray, List.set_cons_zero, List.set_cons_succ]
              refine wpList_plain rfl (fun K hK => ?_)
              go_simp
              refine hK _ _ ?_
              clear hK K
              try simp only [Act.put, List.getElem_toArray, List.getElem_cons_succ, List.getElem_cons_zero, List.setIfInBounds_toArray, List.set_cons_zero, List.set_cons_succ]
              have q0 := blk_cell hxr5 0
              have q1 := blk_cell hxr5 1
              have f0 := frozen_of_row w5 xb 0 _ _ hxr5
              have f1 := frozen_of_row w5 xb 1 _ _ hxr5
              refine wpList_plain rfl (fun K hK => ?_)
              go_simp
              refine hK _ _ ?_
              clear hK K
              try simp only [Act.put, List.getElem_toArray, List.getElem_cons_succ, List.getElem_cons_zero, List.setIfInBounds_toArray, List.set_cons_zero, List.set_cons_succ]
              change wpList _ _ _ _ _ (putSt2 w5 xb (.slice zp1 1 zc1) (.slice zp2 1 zc2))
              clear q0 q1 f0 f1
              have H6 := H5.put hu0 hzk
              have hxw := HXW.out
              have hbX6 : Below w.heap.size w (putSt2 w5 xb (.slice zp1 1 zc1) (.slice zp2 1 zc2)) := hbX5.trans (putSt2_below hxw)
              clear H5 hxr5 hu0 hzk hbX5
              generalize putSt2 w5 xb (.slice zp1 1 zc1) (.slice zp2 1 zc2) = w6' at H6 hbX6 ⊢
              go_wp2_with fail
              go_roundw
              case rel => exact ⟨i + 1, _, time + mn, wrong, rfl, by go_num, by go_num, by go_num, by omega, HSTEP, H6, hbX6⟩
              case measure => simp [intOf]; omega
end Go.Proofs.YtnkgbocdpngldaaGreatDoor

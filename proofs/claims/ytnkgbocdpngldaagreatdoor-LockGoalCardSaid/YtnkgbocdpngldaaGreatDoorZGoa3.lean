/-
  LockGoal: the plain law and the walk.
-/
import Derived.Test.YtnkgbocdpngldaaGreatDoorZGoa2
import Derived.Test.YtnkgbocdpngldaaGreatDoorZNev
set_option linter.unusedVariables false
set_option linter.unusedSimpArgs false
namespace Go.Proofs.YtnkgbocdpngldaaGreatDoor
open Go.RowKit Dc Dg

/-- what Climb hands back, in two cases -/
inductive ClimbIs (gs : List Gd) (y : St) : Prop
  | none (h : climbG gs y = ([], 4))
  | way (l : List Ev) (h : climbG gs y = (l, 0)) (ho : ∀ v ∈ l, okEv (machOf gs) v = true ∧ v.k = 0) (hg : goalS (machOf gs) (runS (machOf gs) y l) = true) (hn : ∀ k, k < l.length → goalS (machOf gs) (runS (machOf gs) y (l.take k)) = false)
theorem climb_is {gs : List Gd} {y : St} (hS : sysS gs = true) (hy : (machOf gs).At y) : ClimbIs gs y := by
  have hm : climbG gs y = (match searchS (machOf gs) y winS (goalS (machOf gs)) with | (some z, R) => (wayS R z, 0) | (none, _) => ([], 4)) := rfl
  have hsp := search_spec (sys_good hS) (al := winS) (fd := goalS (machOf gs)) hy
  revert hm hsp
  generalize searchS (machOf gs) y winS (goalS (machOf gs)) = res
  intro hm hsp
  match res, hm, hsp with
  | (some z, R), hm, hsp =>
    obtain ⟨w1, w2, w3⟩ := found_way hsp
    exact .way (wayS R z) hm (fun v hv => ⟨(w3 v hv).1, of_decide_eq_true (w3 v hv).2⟩) (by rw [w1]; exact hsp.fd) w2
  | (none, R), hm, hsp => exact .none hm
theorem run_take {M : Mach} {y : St} {l : List Ev} {i : Nat} (h : i < l.length) : runS M y (l.take (i + 1)) = moveS M (runS M y (l.take i)) l[i] := by
  unfold runS
  rw [List.take_add_one, List.getElem?_eq_getElem h, List.foldl_append]
  rfl
theorem run_held {M : Mach} (G : M.Good) {y : St} (hy : M.At y) (hh : HeldAll M y) {l : List Ev} (ho : ∀ v ∈ l, okEv M v = true) : ∀ i, i ≤ l.length → M.At (runS M y (l.take i)) ∧ HeldAll M (runS M y (l.take i))
  | 0, _ => ⟨hy, hh⟩
  | i + 1, hi => by
    rw [run_take (by omega)]
    have h1 := (run_held G hy hh ho i (by omega)).1
    have h2 := ho l[i] (List.getElem_mem _)
    exact ⟨move_at G h1 h2, move_holds G h1 h2⟩
theorem MoveQ.fine {gs : List Gd} {al fl : List Int} {y : St} {v : Ev} {w w' : World} {e : Ending} (h : MoveQ gs al fl v w e w') (hS : sysS gs = true) (hy : StOK gs al fl y) (hv : okEv (machOf gs) v = true) :
    Below w.heap.size w w' ∧ ∃ u, e = .returned (.tuple #[u, .int .i64 0]) ∧ StatR w.heap.size gs.length w' u (moveS (machOf gs) y v) := by
  obtain ⟨hb, ⟨n, _, hn, _⟩ | ⟨z, _, hz, ⟨h1, _⟩ | ⟨_, u, he, hu⟩⟩⟩ := h
  · rcases hn with ⟨h1, _⟩ | ⟨_, _, h1⟩
    · rw [hS] at h1; cases h1
    · exact absurd hy (h1 y)
  · rw [hv] at h1; cases h1
  · have := hz.uniq (sys_len hS).2 hy
    subst this
    exact ⟨hb, u, he, hu⟩

/-- two cells are stored -/
def putTwo (w : World) (b : Nat) (u1 u2 : Value) : World := (w.setCell ⟨b, 0, none⟩ u1).setCell ⟨b, 1, none⟩ u2
theorem putTwo_row {w : World} {b : Nat} {v1 v2 u1 u2 : Value} {t : TypeId} (h : w.heap[b]? = some (.cells #[v1, v2] t (0, 0))) : (putTwo w b u1 u2).heap[b]? = some (.cells #[u1, u2] t (0, 0)) := by
  have e1 := heap_setCell_same w b 0 _ _ u1 h
  exact heap_setCell_same _ b 1 _ _ u2 e1
theorem putTwo_below {w : World} {n b : Nat} {u1 u2 : Value} (hb : n ≤ b) : Below n w (putTwo w b u1 u2) := ((Below.refl n w).setCell (p := ⟨b, 0, none⟩) hb _).setCell (p := ⟨b, 1, none⟩) hb _
theorem putTwo_other {w : World} {b k : Nat} {u1 u2 : Value} (h : k ≠ b) : (putTwo w b u1 u2).heap[k]? = w.heap[k]? := by
  unfold putTwo
  rw [Below.heap_setCell _ _ _ _ h, Below.heap_setCell _ _ _ _ h]
theorem row_two {B : Nat} {w : World} {e : TypeId} {size : Nat} {v : Value} {m : Nat} {xs : List Value} (hi : w.ownsRow B e size v m xs) {b : Nat} (u1 u2 : Value) {cs : Array Value} {t : TypeId} {r : Nat × Nat} (hb : w.heap[b]? = some (.cells cs t r)) (ht : t ≠ e) : (putTwo w b u1 u2).ownsRow B e size v m xs :=
  row_same hi (fun k hk => putTwo_other (fun e2 => by
    obtain ⟨_, _, cur, h1⟩ := row_type hi hk
    rw [e2, hb] at h1
    exact ht (by cases h1; rfl)))
/-- what LockGoal's walk keeps -/
structure GoaSt (w0 w : World) (gs : List Gd) (p : Option Addr) (c : Nat) (ve : Value) (l : List Ev) (y : St) : Prop where
  s : w.heap[w0.heap.size]? = some (.cells #[.slice p gs.length c] 24 (0, 0))
  x : ∃ p1 c1 p2 c2 al fl, w.heap[w0.heap.size + 1]? = some (.cells #[.slice p1 (List.length al) c1, .slice p2 (List.length fl) c2] 41 (0, 0)) ∧ StatQ w (.agg #[.slice p1 (List.length al) c1, .slice p2 (List.length fl) c2]) al fl ∧ StOK gs al fl y
  ev : EvR w0.heap.size w ve l
  bl : Below w0.heap.size w0 w
theorem GoaSt.below {w0 w w' : World} {gs : List Gd} {p : Option Addr} {c : Nat} {ve : Value} {l : List Ev} {y : St} (h : GoaSt w0 w gs p c ve l y) (hb : Below w.heap.size w w') : GoaSt w0 w' gs p c ve l y := by
  obtain ⟨p1, c1, p2, c2, al, fl, h1, h2, h3⟩ := h.x
  exact ⟨(hb.block _ (row_lt h.s)).trans h.s, ⟨p1, c1, p2, c2, al, fl, (hb.block _ (row_lt h1)).trans h1, h2.below hb, h3⟩, h.ev.below hb, h.bl.trans (hb.mono h.bl.size)⟩
theorem GoaSt.put {w0 w : World} {gs : List Gd} {p : Option Addr} {c B : Nat} {ve : Value} {l : List Ev} {y z : St} {p1 : Option Addr} {c1 : Nat} {p2 : Option Addr} {c2 : Nat} (h : GoaSt w0 w gs p c ve l y) (hn : gs.length ≤ 3) (hz : StatR B gs.length w (.agg #[.slice p1 gs.length c1, .slice p2 gs.length c2]) z) (hk : StOK gs (atL gs.length z) (failL gs.length z) z) :
    GoaSt w0 (putTwo w (w0.heap.size + 1) (.slice p1 gs.length c1) (.slice p2 gs.length c2)) gs p c ve l z := by
  obtain ⟨q1, d1, q2, d2, al, fl, h1, _, _⟩ := h.x
  obtain ⟨u1, u2, he, i1, i2⟩ := hz
  obtain ⟨rfl, rfl⟩ : u1 = .slice p1 gs.length c1 ∧ u2 = .slice p2 gs.length c2 := by simpa using he.symm
  refine ⟨(putTwo_other (by omega)).trans h.s, ⟨p1, c1, p2, c2, atL gs.length z, failL gs.length z, ?_, ⟨_, _, rfl, ?_, ?_⟩, hk⟩, row_two h.ev _ _ h1 (by decide), h.bl.trans (putTwo_below (by omega))⟩
  · rw [atL_len hn, failL_len hn]; exact putTwo_row h1
  · rw [atL_len hn]; exact IntR.q (row_two i1 _ _ h1 (by decide))
  · rw [failL_len hn]; exact IntR.q (row_two i2 _ _ h1 (by decide))

set_option maxRecDepth 100000 in
set_option maxHeartbeats 8000000 in
theorem lockGoalN (gs : List Gd) (p : Option Addr) (c : Nat) (v : Value) (al fl : List Int) (w : World) (hP : SysP w p c gs) (hQ : StatQ w v al fl) :
    Calls Tryz.prog 9 #[.agg #[.slice p gs.length c], v] w (TrueQ w) := by
  obtain ⟨u1, u2, rfl, hI1, hI2⟩ := hQ.at_
  obtain ⟨p1, c1, rfl, -⟩ := hI1.at_
  obtain ⟨p2, c2, rfl, -⟩ := hI2.at_
  have hb1 : Below w.heap.size w ((w.alloc (.cells #[.slice p gs.length c] 24)).alloc (.cells #[.slice p1 al.length c1, .slice p2 fl.length c2] 41)) := ((Below.refl _ _).alloc (Nat.le_refl _) _).alloc (by simp) _
  have s0 : ((w.alloc (.cells #[.slice p gs.length c] 24)).alloc (.cells #[.slice p1 al.length c1, .slice p2 fl.length c2] 41)).heap[w.heap.size]? = some (.cells #[.slice p gs.length c] 24 (0, 0)) := (heap_alloc_old _ _ (by simp)).trans (heap_alloc_new _ _)
  have s1 : ((w.alloc (.cells #[.slice p gs.length c] 24)).alloc (.cells #[.slice p1 al.length c1, .slice p2 fl.length c2] 41)).heap[w.heap.size + 1]? = some (.cells #[.slice p1 al.length c1, .slice p2 fl.length c2] 41 (0, 0)) := by
    have := heap_alloc_new (w.alloc (.cells #[.slice p gs.length c] 24)) (.cells #[.slice p1 al.length c1, .slice p2 fl.length c2] 41)
    simpa using this
  have P1 := hP.below hb1
  have Q1 := hQ.below hb1
  have x0 := blk_cell s0 0
  have x1 := blk_cell s1 0
  have x2 := blk_cell s1 1
  go_enter Tryz.func9, Tryz.ntmps9
  go_upto_region 1 with fail
  generalize (w.alloc (.cells #[.slice p gs.length c] 24)).alloc (.cells #[.slice p1 al.length c1, .slice p2 fl.length c2] 41) = w1 at *
  go_wp2_with fail
  refine (climbN gs p c w1 (.agg #[.slice p1 al.length c1, .slice p2 fl.length c2]) al fl P1 Q1).mono ?_
  intro e w2 hq
  obtain ⟨hb2, hq⟩ := hq
  have HB2 := hb1.trans (hb2.mono hb1.size)
  have X2 := hP.X.below HB2
  have t0 := (hb2.block _ (row_lt s0)).trans s0
  have t1 := (hb2.block _ (row_lt s1)).trans s1
  have Q2 := Q1.below hb2
  have hs12 := hb1.size
  clear x0 x1 x2 s0 s1 P1 Q1 hb2 hb1
  rcases hq with ⟨n, hn0, -, rfl⟩ | ⟨y, ve, hS, hok, rfl, hE⟩
  · have hd : (n != 0) = true := by simp [hn0]
    clear t0 t1 Q2 hn0
    go_wp2_with fail
    refine (worksN _ X2).mono ?_
    rintro e wk ⟨rfl, hbk⟩
    go_wp2_with fail
    go_ret
    exact ⟨rfl, HB2.trans (hbk.mono HB2.size)⟩
  · obtain ⟨hn1, hn3⟩ := sys_len hS
    have hCI := climb_is hS hok.at_
    obtain ⟨pe, ce, rfl⟩ := hE.slice
    cases hCI with
    | none h =>
      rw [h] at hE ⊢
      simp only [List.length_nil]
      clear t0 t1 Q2 hE h
      go_wp2_with fail
      all_goals
        refine (worksN _ X2).mono ?_
        rintro e wk ⟨rfl, hbk⟩
        go_wp2_with fail
        go_ret
        exact ⟨rfl, HB2.trans (hbk.mono HB2.size)⟩
    | way l h ho hg hn =>
      rw [h] at hE ⊢
      simp only
      have hsm := hE.small
      obtain ⟨nl, hnl⟩ : ∃ nl, nl = l.length := ⟨_, rfl⟩
      have HE0 : EvR w.heap.size w2 (.slice pe l.length ce) l := row_base hE hs12
      rw [← hnl] at hsm HE0 ⊢
      have HNL := Lib.hid hnl
      have HX : Hid (GoaSt w w2 gs p c (.slice pe nl ce) l y) := ⟨t0, ⟨p1, c1, p2, c2, al, fl, t1, Q2, hok⟩, HE0, HB2⟩
      have HP := Lib.hid hP
      have hsm2 : (nl : Int) ≤ 9223372036854775807 := by unfold maxLen at hsm; omega
      have HO := Lib.hid ho
      have HG := Lib.hid hg
      have HN := Lib.hid hn
      have HOK := Lib.hid hok
      clear hE h hnl HE0 t0 t1 Q2 X2 hs12 ho hg hn hok hsm hI1 hI2 hQ hP
      go_wp2_with fail
      go_loopw [7] (fun s7 wr => ∃ i : Nat, s7 = .int .i64 i ∧ i ≤ nl ∧ GoaSt w wr gs p c (.slice pe nl ce) l (runS (machOf gs) y (l.take i))) (fun s7 _ => nl - (intOf s7).toNat)
      case atStart => exact ⟨0, rfl, by omega, HX.out⟩
      case round =>
        obtain ⟨i, rfl, hi, H⟩ := hrel
        have hRH := run_held (sys_good hS) HOK.out.at_ HOK.out.held (fun v hv => (HO.out v hv).1) i (by rw [← HNL.out]; exact hi)
        have a0 := blk_cell H.s 0
        obtain ⟨xp1, xc1, xp2, xc2, xa, xf, hxr, hxq, hxk⟩ := H.x
        have b0 := blk_cell hxr 0
        have b1 := blk_cell hxr 1
        by_cases hil : i < nl
        · have hil2 : i < l.length := by rw [← HNL.out]; exact hil
          have hgo := HN.out i hil2
          have hilI : (i : Int) < (nl : Int) := by omega
          have hd1 : decide ((i : Int) < ((nl : Nat) : Int)) = true := by simp; omega
          obtain ⟨z, hz⟩ : ∃ z, z = runS (machOf gs) y (l.take i) := ⟨_, rfl⟩
          have hnext := run_take (M := machOf gs) (y := y) hil2
          rw [← hz] at H hxk hRH hgo hnext
          have HNX := Lib.hid hnext
          have HV := Lib.hid (HO.out l[i] (List.getElem_mem _))
          have HRH := Lib.hid hRH
          clear hz hnext hRH
          go_wp2_with fail
          refine (lockGoalsN gs p c wr (.agg #[.slice xp1 xa.length xc1, .slice xp2 xf.length xc2]) xa xf (HP.out.below H.bl) hxq).mono ?_
          intro e w3 hq
          obtain ⟨rfl, hb3⟩ := hq.good hS hxk
          rw [hgo]
          have H3 := H.below hb3
          have hxr3 := (hb3.block _ (row_lt hxr)).trans hxr
          have hxq3 := hxq.below hb3
          clear H hxr hxq a0 b0 b1 hb3 hq hgo
          obtain ⟨pg, cg2, hpe⟩ : ∃ (g : Nat) (cc : Nat), Value.slice pe nl ce = .slice (some ⟨g, 0, none⟩) nl cc := by
            rcases H3.ev.2 with ⟨h1, h2⟩ | ⟨g, cap, cur, h1, _⟩
            · omega
            · exact ⟨g, cap, by rw [h1, HNL.out]⟩
          simp only [Value.slice.injEq] at hpe
          obtain ⟨rfl, -, rfl⟩ := hpe
          have hcc : w3.cell? ⟨pg, i * 2, none⟩ = some (.int .i64 l[i].g) ∧ w3.cell? ⟨pg, i * 2 + 1, none⟩ = some (.int .i64 l[i].k) := by
            have := H3.ev
            rw [HNL.out] at this
            exact this.cell hil2
          obtain ⟨e0, e1⟩ := hcc
          rw [HV.out.2] at e1
          have hpg : pg < w3.heap.size := block_lt_of_cell e0
          obtain ⟨eg, HEG⟩ : ∃ eg, Hid (l[i].g = eg) := ⟨l[i].g, by unfold Hid; rfl⟩
          rw [HEG.out] at e0
          go_upto_region 10 with fail
          have H4 := H3.below (show Below w3.heap.size w3 w3.drew from below_drewN (Below.refl w3.heap.size w3) 1)
          have hb4 : Below w3.heap.size w3 w3.drew := below_drewN (Below.refl w3.heap.size w3) 1
          have hxr4 := (hb4.block _ (row_lt hxr3)).trans hxr3
          have hxq4 := hxq3.below hb4
          have hSt : (fun wy : World => wy.cell? ⟨w.heap.size, 0, none⟩ = some (.slice p gs.length c) ∧ wy.cell? ⟨w.heap.size + 1, 0, none⟩ = some (.slice xp1 xa.length xc1) ∧ wy.cell? ⟨w.heap.size + 1, 1, none⟩ = some (.slice xp2 xf.length xc2) ∧ wy.cell? ⟨pg, i * 2, none⟩ = some (.int .i64 eg) ∧ wy.cell? ⟨pg, i * 2 + 1, none⟩ = some (.int .i64 0)) w3.drew :=
            ⟨blk_cell H4.s 0, blk_cell hxr4 0, blk_cell hxr4 1, (hb4.cell (p := ⟨pg, _, none⟩) hpg).trans e0, (hb4.cell (p := ⟨pg, _, none⟩) hpg).trans e1⟩
          clear H3 hxr3 hxq3 e0 e1 hb4 hpg
          refine wp_region_late (fun wy : World => wy.cell? ⟨w.heap.size, 0, none⟩ = some (.slice p gs.length c) ∧ wy.cell? ⟨w.heap.size + 1, 0, none⟩ = some (.slice xp1 xa.length xc1) ∧ wy.cell? ⟨w.heap.size + 1, 1, none⟩ = some (.slice xp2 xf.length xc2) ∧ wy.cell? ⟨pg, i * 2, none⟩ = some (.int .i64 eg) ∧ wy.cell? ⟨pg, i * 2 + 1, none⟩ = some (.int .i64 0)) (fun i => Nat.beq i 6 || Nat.beq i 10) (by kernel_rfl) ?_
          generalize w3.drew = w4 at H4 hxr4 hxq4 hSt ⊢
          refine wpL_take (i := 0) (v := ?vvA) rfl (by kernel_rfl) (fun _ _ _ h => h) rfl hSt ?hyA ?restA
          case hyA =>
            intro wy hy
            obtain ⟨q0, q1, q2, q3, q4⟩ := hy
            go_simp
            try with_reducible rfl
          try simp only [Act.put, List.getElem_toArray, List.getElem_cons_succ, List.getElem_cons_zero, List.setIfInBounds_toArray, List.set_cons_zero, List.set_cons_succ]
          refine wpL_take (i := 1) (v := ?vvB) rfl (by kernel_rfl) (fun _ _ _ h => h) rfl hSt ?hyB ?restB
          case hyB =>
            intro wy hy
            obtain ⟨q0, q1, q2, q3, q4⟩ := hy
            go_simp
            try with_reducible rfl
          try simp only [Act.put, List.getElem_toArray, List.getElem_cons_succ, List.getElem_cons_zero, List.setIfInBounds_toArray, List.set_cons_zero, List.set_cons_succ]
          refine wpL_free (i := 2) (v := ?vv1) rfl (by kernel_rfl) (fun _ _ _ h => h) rfl ?hy1 ?rest1
          case hy1 => (intro wy; go_simp; try with_reducible rfl)
          try simp only [Act.put, List.getElem_toArray, List.getElem_cons_succ, List.getElem_cons_zero, List.setIfInBounds_toArray, List.set_cons_zero, List.set_cons_succ]
          refine wpL_free (i := 3) (v := ?vv2) rfl (by kernel_rfl) (fun _ _ _ h => h) rfl ?hy2 ?rest2
          case hy2 => (intro wy; go_simp; try with_reducible rfl)
          try simp only [Act.put, List.getElem_toArray, List.getElem_cons_succ, List.getElem_cons_zero, List.setIfInBounds_toArray, List.set_cons_zero, List.set_cons_succ]
          refine wpL_free (i := 4) (v := ?vv3) rfl (by kernel_rfl) (fun _ _ _ h => h) rfl ?hy3 ?rest3
          case hy3 => (intro wy; go_simp; try with_reducible rfl)
          try simp only [Act.put, List.getElem_toArray, List.getElem_cons_succ, List.getElem_cons_zero, List.setIfInBounds_toArray, List.set_cons_zero, List.set_cons_succ]
          refine wpL_take (i := 5) (v := ?vvC) rfl (by kernel_rfl) (fun _ _ _ h => h) rfl hSt ?hyC ?restC
          case hyC =>
            intro wy hy
            obtain ⟨q0, q1, q2, q3, q4⟩ := hy
            go_simp
            try with_reducible rfl
          try simp only [Act.put, List.getElem_toArray, List.getElem_cons_succ, List.getElem_cons_zero, List.setIfInBounds_toArray, List.set_cons_zero, List.set_cons_succ]
          clear hSt
          refine wpL_one (i := 6) rfl (by kernel_rfl) rfl (fun K hK => ?_)
          go_simp
          refine (lockMoveN gs p c w4 (.agg #[.slice xp1 xa.length xc1, .slice xp2 xf.length xc2]) xa xf ⟨eg, 0⟩ (HP.out.below H4.bl) hxq4).mono ?_
          intro e w5 hq
          have hev : okEv (machOf gs) ⟨eg, 0⟩ = true := by
            have h1 := HV.out.1
            have h2 : l[i] = ⟨eg, 0⟩ := by rw [← HEG.out, ← HV.out.2]
            rw [h2] at h1
            exact h1
          obtain ⟨hb5, u, rfl, hu⟩ := hq.fine hS hxk hev
          obtain ⟨zp1, zc1, zp2, zc2, rfl, hz1, hz2⟩ := hu.two hn3
          refine hK _ _ (fun h => by cases h) ?_
          clear hK K hq hz1 hz2
          try simp only [Act.put, List.getElem_toArray, List.getElem_cons_succ, List.getElem_cons_zero, List.setIfInBounds_toArray, List.set_cons_zero, List.set_cons_succ]
          have H5 := H4.below hb5
          have hxr5 := (hb5.block _ (row_lt hxr4)).trans hxr4
          clear H4 hxr4 hxq4 hb5
          refine wpL_free (i := 7) (v := ?vv4) rfl (by kernel_rfl) (fun _ _ _ h => h) rfl ?hy4 ?rest4
          case hy4 => (intro wy; go_simp; try with_reducible rfl)
          try simp only [Act.put, List.getElem_toArray, List.getElem_cons_succ, List.getElem_cons_zero, List.setIfInBounds_toArray, List.set_cons_zero, List.set_cons_succ]
          refine wpL_free (i := 8) (v := ?vv5) rfl (by kernel_rfl) (fun _ _ _ h => h) rfl ?hy5 ?rest5
          case hy5 => (intro wy; go_simp; try with_reducible rfl)
          try simp only [Act.put, List.getElem_toArray, List.getElem_cons_succ, List.getElem_cons_zero, List.setIfInBounds_toArray, List.set_cons_zero, List.set_cons_succ]
          refine wpL_free (i := 9) (v := ?vv6) rfl (by kernel_rfl) (fun _ _ _ h => h) rfl ?hy6 ?rest6
          case hy6 => (intro wy; go_simp; try with_reducible rfl)
          try simp only [Act.put, List.getElem_toArray, List.getElem_cons_succ, List.getElem_cons_zero, List.setIfInBounds_toArray, List.set_cons_zero, List.set_cons_succ]
          have q0 := blk_cell hxr5 0
          have q1 := blk_cell hxr5 1
          have f0 := frozen_of_row w5 (w.heap.size + 1) 0 _ _ hxr5
          have f1 := frozen_of_row w5 (w.heap.size + 1) 1 _ _ hxr5
          refine wpL_one (i := 10) rfl (by kernel_rfl) rfl (fun K hK => ?_)
          go_simp
          change K _ (putTwo w5 (w.heap.size + 1) (.slice zp1 gs.length zc1) (.slice zp2 gs.length zc2))
          refine hK _ _ (fun h => by cases h) ?_
          clear hK K q0 q1 f0 f1
          try simp only [Act.put, List.getElem_toArray, List.getElem_cons_succ, List.getElem_cons_zero, List.setIfInBounds_toArray, List.set_cons_zero, List.set_cons_succ]
          refine wpL_free (i := 11) (v := ?vv7) rfl (by kernel_rfl) (fun _ _ _ h => h) rfl ?hy7 ?rest7
          case hy7 => (intro wy; go_simp; try with_reducible rfl)
          try simp only [Act.put, List.getElem_toArray, List.getElem_cons_succ, List.getElem_cons_zero, List.setIfInBounds_toArray, List.set_cons_zero, List.set_cons_succ]
          try simp only [Act.put, List.getElem_toArray, List.getElem_cons_succ, List.getElem_cons_zero, List.setIfInBounds_toArray, List.set_cons_zero, List.set_cons_succ]
          refine wpL_done (by kernel_rfl) ?_ _
          have hzk : StOK gs (atL gs.length (moveS (machOf gs) z ⟨eg, 0⟩)) (failL gs.length (moveS (machOf gs) z ⟨eg, 0⟩)) (moveS (machOf gs) z ⟨eg, 0⟩) := ok_of (move_at (sys_good hS) hxk.at_ hev) (move_holds (sys_good hS) hxk.at_ hev)
          have H6 := H5.put hn3 hu hzk
          clear H5 hxr5 hu hzk hev
          generalize putTwo w5 (w.heap.size + 1) (.slice zp1 gs.length zc1) (.slice zp2 gs.length zc2) = w6 at H6 ⊢
          go_wp2_with fail
          go_roundw
          case rel =>
            refine ⟨i + 1, by go_num, by omega, ?_⟩
            rw [HNX.out, show l[i] = ⟨eg, 0⟩ by rw [← HEG.out, ← HV.out.2]]
            exact H6
          case measure => simp [intOf]; omega
        · obtain rfl : i = nl := by omega
          have hgo := HG.out
          rw [HNL.out, List.take_length] at H hxk
          have HR := Lib.hid H
          clear hil hRH H
          go_wp2_with fail
          refine (lockGoalsN gs p c wr (.agg #[.slice xp1 xa.length xc1, .slice xp2 xf.length xc2]) xa xf (HP.out.below HR.out.bl) hxq).mono ?_
          intro e w3 hq
          obtain ⟨rfl, hb3⟩ := hq.good hS hxk
          rw [hgo]
          have HB3 := HR.out.bl.trans (hb3.mono HR.out.bl.size)
          clear hxq hxr hxk a0 b0 b1 hb3 hq hgo
          go_wp2_with fail
          refine (worksN _ (HP.out.X.below HB3)).mono ?_
          rintro e wk ⟨rfl, hbk⟩
          go_wp2_with fail
          go_ret
          exact ⟨rfl, HB3.trans (hbk.mono HB3.size)⟩
end Go.Proofs.YtnkgbocdpngldaaGreatDoor

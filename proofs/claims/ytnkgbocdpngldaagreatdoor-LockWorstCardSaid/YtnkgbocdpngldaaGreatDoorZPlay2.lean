/-
  played of package lock.
-/
import Derived.Test.YtnkgbocdpngldaaGreatDoorZPlay
import Derived.Test.YtnkgbocdpngldaaGreatDoorZStat
set_option linter.unusedVariables false
set_option linter.unusedSimpArgs false
namespace Go.Proofs.YtnkgbocdpngldaaGreatDoor
open Go.RowKit Dc Dg

def evsOK (gs : List Gd) (l : List Ev) : Bool := l.all (okEv (machOf gs))
/-- the number of the first error of a run -/
def playE (gs : List Gd) (l : List Ev) : Int := if sysS gs = true then (if 256 < l.length then 3 else if evsOK gs l = true then 0 else 42) else 40
def PlayQ (w : World) (gs : List Gd) (p : Option Addr) (c : Nat) (l : List Ev) (e : Ending) (w' : World) : Prop :=
  Below w.heap.size w w' ∧ ((playE gs l ≠ 0 ∧ e = .returned (.tuple #[.pointer none, .slice none 0 0, .int .i64 (playE gs l)])) ∨
    (playE gs l = 0 ∧ ∃ (mB : Nat) (vn vb : Value) (mb N s : Nat) (f : Nat × Nat → Option Value) (qv : Value), e = .returned (.tuple #[.pointer (some ⟨mB, 0, none⟩), qv, .int .i64 0]) ∧ MachP w' mB gs p c vn vb mb N s f ∧ QueQ w.heap.size w' qv (statesS (machOf gs) St.zero l)))
theorem PlayQ.bad {w w' : World} {gs : List Gd} {p : Option Addr} {c : Nat} {l : List Ev} {n : Int} (h : playE gs l = n) (hn : n ≠ 0) (hb : Below w.heap.size w w') : PlayQ w gs p c l (.returned (.tuple #[.pointer none, .slice none 0 0, .int .i64 n])) w' :=
  ⟨hb, Or.inl ⟨by rw [h]; exact hn, by rw [h]⟩⟩
theorem QueQ.base {B B' : Nat} {w : World} {v : Value} {q : List St} (h : QueQ B w v q) (hb : B' ≤ B) : QueQ B' w v q := by
  obtain ⟨ao, cap, e, h1, h2, h3⟩ := h
  exact ⟨ao, cap, e, h1, h2, fun hc => by obtain ⟨g, off, cur, e2, hB, r⟩ := h3 hc; exact ⟨g, off, cur, e2, Nat.le_trans hb hB, r⟩⟩
theorem evsOK_step {gs : List Gd} {l : List Ev} {i : Nat} (hi : i < l.length) (h : evsOK gs (l.take i) = true) (h2 : okEv (machOf gs) l[i] = true) : evsOK gs (l.take (i + 1)) = true := by
  unfold evsOK at *
  rw [List.take_add_one, List.getElem?_eq_getElem hi, List.all_append, h]
  simp [h2]
theorem evsOK_bad {gs : List Gd} {l : List Ev} {i : Nat} (hi : i < l.length) (h2 : okEv (machOf gs) l[i] = false) : evsOK gs l = false := by
  unfold evsOK
  rw [List.all_eq_false]
  exact ⟨_, List.getElem_mem hi, by rw [h2]; exact Bool.false_ne_true⟩
/-- between two events of a run -/
structure PlayR (w3 wr : World) (gs : List Gd) (l : List Ev) (i : Nat) (qv : Value) : Prop where
  below : Below w3.heap.size w3 wr
  q : QueQ w3.heap.size wr qv (statesS (machOf gs) St.zero (l.take i))
  ok : evsOK gs (l.take i) = true
theorem states_last (M : Mach) (l : List Ev) (x : St) : ∃ h : l.length < (statesS M x l).length, (statesS M x l)[l.length] = runS M x l := by
  have hl := states_length M l x
  refine ⟨by omega, ?_⟩
  have := states_get M l x l.length (Nat.le_refl _)
  rw [List.getElem?_eq_getElem (by omega), List.take_length] at this
  exact Option.some.inj this
set_option maxRecDepth 100000 in
set_option maxHeartbeats 8000000 in
theorem playedN (gs : List Gd) (p : Option Addr) (c : Nat) (v : Value) (l : List Ev) (w : World) (hP : SysP w p c gs) (hE : EvsQ w v l) (hlen : (l.length : Int) ≤ 9223372036854775807) :
    Calls Tryz.prog 56 #[.agg #[.slice p gs.length c], v] w (PlayQ w gs p c l) := by
  obtain ⟨pe, ce, rfl, hEv⟩ := hE.at_
  have HEV := Lib.hid hEv
  have HE := Lib.hid hE
  clear hEv hE
  have hb1 : Below w.heap.size w (w.alloc (.cells #[.slice p gs.length c] 24)) := (Below.refl _ _).alloc (Nat.le_refl _) _
  have s0 := heap_alloc_new w (.cells #[.slice p gs.length c] 24)
  have P1 := hP.below hb1
  have c0 := blk_cell s0 0
  go_enter Tryz.func56, Tryz.ntmps56
  go_upto_region 1 with fail
  generalize w.alloc (.cells #[.slice p gs.length c] 24) = w1 at *
  go_wp2_with fail
  refine P1.check.mono ?_
  rintro e w2 ⟨rfl, hb2⟩
  have P2 := P1.below hb2
  have t0 := (hb2.block _ (row_lt s0)).trans s0
  have HB2 := hb1.trans (hb2.mono hb1.size)
  clear s0 hb2 hb1 P1 c0
  cases hS : sysS gs
  · simp only [Bool.false_eq_true, if_false]
    have hpe : playE gs l = 40 := by unfold playE; rw [if_neg (by rw [hS]; exact Bool.false_ne_true)]
    go_wp2_with fail
    all_goals go_ret3
    all_goals exact PlayQ.bad hpe (by decide) HB2
  · simp only [if_true]
    obtain ⟨n, hnl⟩ : ∃ n, n = l.length := ⟨_, rfl⟩
    rw [← hnl] at hlen ⊢
    have HNL := Lib.hid hnl
    clear hnl
    obtain ⟨hl1, hl3⟩ := sys_len hS
    have e0 := blk_cell t0 0
    by_cases hbig : (256 : Int) < n
    · have hd : decide ((256 : Int) < n) = true := by simpa using hbig
      have hpe : playE gs l = 3 := by unfold playE; rw [if_pos hS, if_pos (by have := HNL.out; omega)]
      go_wp2_with fail
      go_ret3
      exact PlayQ.bad hpe (by decide) HB2
    · have hd : decide ((256 : Int) < n) = false := by simpa using hbig
      have hpe : playE gs l = if evsOK gs l = true then 0 else 42 := by unfold playE; rw [if_pos hS, if_neg (by have := HNL.out; omega)]
      have HPE := Lib.hid hpe
      clear hpe
      go_wp2_with fail
      refine (madeN gs p c w2 P2.G hS).mono ?_
      rintro e w3 ⟨mB, vn, vb, mb, Nm, sm, f, rfl, hM, hb3⟩
      have hb4 : Below w3.heap.size w3 (w3.alloc (.cells #[.int .i64 0, .int .i64 0, .int .i64 0, .int .i64 0, .int .i64 0, .int .i64 0] 87)) := (Below.refl _ _).alloc (Nat.le_refl _) _
      have HB4 := (HB2.trans (hb3.mono HB2.size)).trans (hb4.mono (Nat.le_trans HB2.size hb3.size))
      have hM4 := hM.below hb4
      have hQ4 : QueQ w.heap.size (w3.alloc (.cells #[.int .i64 0, .int .i64 0, .int .i64 0, .int .i64 0, .int .i64 0, .int .i64 0] 87)) (.slice (some ⟨w3.heap.size, 0, none⟩) 1 1) [St.zero] := QueQ.start (StP.new w3 St.zero) (Nat.le_trans HB2.size hb3.size)
      go_wp2_with fail
      have hE3 := HE.out.below ((HB2.trans (hb3.mono HB2.size)).mono (Nat.le_refl _) |> fun h => (show Below w.heap.size w w3 from h))
      obtain ⟨pe', ce', he', hev3⟩ := hE3.at_
      have hR0 : PlayR w3 (w3.alloc (.cells #[.int .i64 0, .int .i64 0, .int .i64 0, .int .i64 0, .int .i64 0, .int .i64 0] 87)) gs l 0 (.slice (some ⟨w3.heap.size, 0, none⟩) 1 1) := ⟨hb4, QueQ.start (StP.new w3 St.zero) (Nat.le_refl _), by simp [evsOK]⟩
      have hB3 := HB2.trans (hb3.mono HB2.size)
      have HEV3 := Lib.hid hev3
      have hz3 : w.heap.size < w3.heap.size := Nat.lt_of_lt_of_le (row_lt t0) hb3.size
      have hn256 : n ≤ 256 := by omega
      clear hev3 hQ4 hM4 HB4 hb4 HEV hd e0 t0 P2 hb3 hbig HB2
      go_loopw [26, 9] (fun s26 s9 wr => ∃ i : Nat, s26 = .int .i64 i ∧ i ≤ n ∧ PlayR w3 wr gs l i s9) (fun s26 _ _ => n - (intOf s26).toNat)
      case atStart => exact ⟨0, rfl, by omega, hR0⟩
      case round =>
        clear hR0
        obtain ⟨i, rfl, hi, hR⟩ := hrel
        by_cases hin : i < n
        · have hil : i < l.length := by have := HNL.out; omega
          obtain ⟨b, o, hpe, hbw, hcs⟩ := HEV3.out (by omega)
          have hpp : pe = some ⟨b, o, none⟩ := by
            have := he'
            cases this
            exact hpe
          subst hpp
          obtain ⟨ev, hev⟩ : ∃ ev, ev = l[i] := ⟨_, rfl⟩
          obtain ⟨e0, e1⟩ := hcs i hil
          rw [← hev] at e0 e1
          have HV := Lib.hid hev
          clear hev hcs hpe
          obtain ⟨eg, ek⟩ := ev
          simp only at e0 e1
          have x0 := (hR.below.cell (p := ⟨b, _, none⟩) hbw).trans e0
          have x1 := (hR.below.cell (p := ⟨b, _, none⟩) hbw).trans e1
          have hbA : Below w3.heap.size w3 (wr.alloc (.cells #[.int .i64 eg, .int .i64 ek] 53)) := hR.below.alloc hR.below.size _
          have y0 := heap_alloc_new wr (.cells #[.int .i64 eg, .int .i64 ek] 53)
          have hQA := hR.q.below ((Below.refl wr.heap.size wr).alloc (Nat.le_refl _) (.cells #[.int .i64 eg, .int .i64 ek] 53))
          have HOK := Lib.hid hR.ok
          clear e0 e1 he'
          go_upto_region 11 with fail
          generalize wr.alloc (.cells #[.int .i64 eg, .int .i64 ek] 53) = wa at *
          generalize wr.heap.size = be at *
          have z0 := blk_cell y0 0
          have z1 := blk_cell y0 1
          have hMA := hM.below hbA
          clear x0 x1 hR
          go_wp2_with fail
          refine (eventOKN gs p c mB ⟨eg, ek⟩ wa hMA.m0 hl3).mono ?_
          rintro e wb ⟨rfl, hbB⟩
          have HBB := hbA.trans (hbB.mono hbA.size)
          cases hok : okEv (machOf gs) ⟨eg, ek⟩
          · have hpe : playE gs l = 42 := by
              rw [HPE.out, if_neg]
              rw [evsOK_bad hil (by rw [← HV.out]; exact hok)]
              exact Bool.false_ne_true
            go_wp2_with fail
            go_ret3
            exact PlayQ.bad hpe (by decide) (hB3.trans (HBB.mono hB3.size))
          · have hoks := okEv_iff.1 hok
            obtain ⟨gn, rfl⟩ : ∃ gn : Nat, eg = gn := ⟨eg.toNat, by have := hoks.1; simp only at this; omega⟩
            have hgn : gn < gs.length := by have := hoks.2.1; simp only [machOf] at this; omega
            have hk0 := hoks.2.2.1
            have hk2 := hoks.2.2.2
            simp only at hk0 hk2
            have HST := Lib.hid (evsOK_step hil HOK.out (by rw [← HV.out]; exact hok))
            have hQB := hQA.below hbB
            have hMB := hM.below HBB
            have y1 := (hbB.block _ (row_lt y0)).trans y0
            have z0 := blk_cell y1 0
            have z1 := blk_cell y1 1
            clear hok hoks y0 hMA hbA hbB
            obtain ⟨hsl, hse⟩ := states_last (machOf gs) (l.take i) St.zero
            have hqi := hQB.get hsl
            rw [hse] at hqi
            have hln : (statesS (machOf gs) St.zero (l.take i)).length = i + 1 := by rw [states_length, List.length_take]; omega
            have hli : (l.take i).length = i := by rw [List.length_take]; omega
            have hxat : (machOf gs).At (runS (machOf gs) St.zero (l.take i)) := run_at (sys_good hS) _ _ (Mach.At.zero (sys_good hS)) (fun u hu => List.all_eq_true.1 HOK.out u hu)
            obtain ⟨x, hx⟩ : ∃ x, x = runS (machOf gs) St.zero (l.take i) := ⟨_, rfl⟩
            rw [← hx] at hqi hxat
            rw [hln, hli] at hqi
            obtain ⟨g, off, cap, rfl, hgl, q0, q1, q2, q3, q4, q5⟩ := hqi
            have HX := Lib.hid hx
            have HLN := Lib.hid hln
            clear hx hln hli hse hsl z0 z1
            have z0 := blk_cell y1 0
            have z1 := blk_cell y1 1
            go_upto_region 13 with fail
            have hbd : Below wb.heap.size wb wb.drew := (Below.refl _ _).drew
            have a0 := (hbd.cell (p := ⟨g, _, none⟩) hgl).trans q0
            have a1 := (hbd.cell (p := ⟨g, _, none⟩) hgl).trans q1
            have a2 := (hbd.cell (p := ⟨g, _, none⟩) hgl).trans q2
            have a3 := (hbd.cell (p := ⟨g, _, none⟩) hgl).trans q3
            have a4 := (hbd.cell (p := ⟨g, _, none⟩) hgl).trans q4
            have a5 := (hbd.cell (p := ⟨g, _, none⟩) hgl).trans q5
            have y2 := (hbd.block _ (row_lt y1)).trans y1
            have b0 := blk_cell y2 0
            have b1 := blk_cell y2 1
            have hQD := hQB.below hbd
            have hMD := hMB.below hbd
            have HBD := HBB.trans (hbd.mono HBB.size)
            have hoffc : i + 1 ≤ 257 := by omega
            have hil1 : ((i : Nat) : Int) < (i : Int) + 1 := by omega
            have hwi : IntKind.i64.wrap ((i : Nat) : Int) = i := by rw [IntKind.wrap_i64]; omega
            clear q0 q1 q2 q3 q4 q5 z0 z1 y1 hQB hMB HBB hQA hgl
            refine wp_mono (wp_region_late (Q := onlyN _) (fun _ => True) (fun _ => false) (by kernel_rfl) ?_) (fun _ _ _ h => onlyN_le h)
            generalize wb.drew = wd at *
            refine wpL_free (i := 0) (v := ?vv0) rfl (by kernel_rfl) (fun _ _ _ h => h) rfl ?hy0 ?rest0
            case hy0 => (intro wy; go_simp; try with_reducible rfl)
            try simp only [Act.put, List.setIfInBounds_toArray, List.set_cons_zero, List.set_cons_succ]
            refine wpL_free (i := 1) (v := ?vv1) rfl (by kernel_rfl) (fun _ _ _ h => h) rfl ?hy1 ?rest1
            case hy1 => (intro wy; go_simp; try with_reducible rfl)
            try simp only [Act.put, List.setIfInBounds_toArray, List.set_cons_zero, List.set_cons_succ]
            refine wpL_free (i := 2) (v := ?vv2) rfl (by kernel_rfl) (fun _ _ _ h => h) rfl ?hy2 ?rest2
            case hy2 => (intro wy; go_simp; try with_reducible rfl)
            try simp only [Act.put, List.setIfInBounds_toArray, List.set_cons_zero, List.set_cons_succ]
            refine wpL_free (i := 3) (v := ?vv3) rfl (by kernel_rfl) (fun _ _ _ h => h) rfl ?hy3 ?rest3
            case hy3 => (intro wy; go_simp; try with_reducible rfl)
            try simp only [Act.put, List.setIfInBounds_toArray, List.set_cons_zero, List.set_cons_succ]
            refine wpL_free (i := 4) (v := ?vv4) rfl (by kernel_rfl) (fun _ _ _ h => h) rfl ?hy4 ?rest4
            case hy4 => (intro wy; go_simp; try with_reducible rfl)
            try simp only [Act.put, List.setIfInBounds_toArray, List.set_cons_zero, List.set_cons_succ]
            refine wpL_free (i := 5) (v := ?vv5) rfl (by kernel_rfl) (fun _ _ _ h => h) rfl ?hy5 ?rest5
            case hy5 => (intro wy; go_simp; (try simp only [hwi]); try with_reducible rfl)
            try simp only [Act.put, List.setIfInBounds_toArray, List.set_cons_zero, List.set_cons_succ]
            refine wpL_free (i := 6) (v := ?vv6) rfl (by kernel_rfl) (fun _ _ _ h => h) rfl ?hy6 ?rest6
            case hy6 => (intro wy; go_simp; (try rw [if_pos hil1]); try with_reducible rfl)
            try simp only [Act.put, List.setIfInBounds_toArray, List.set_cons_zero, List.set_cons_succ]
            refine wpL_two (i := 7) (i' := 8) rfl rfl (by kernel_rfl) rfl rfl (fun K hK => ?_) (fun K hK => ?_)
            · go_simp
              refine hK _ _ (fun _ _ => trivial) ?_
              clear hK K
              try simp only [Act.put, List.setIfInBounds_toArray, List.set_cons_zero, List.set_cons_succ]
              refine wpL_one (i := 8) rfl (by kernel_rfl) rfl (fun K hK => ?_)
              go_simp
              refine hK _ _ (fun _ _ => trivial) ?_
              clear hK K
              try simp only [Act.put, List.setIfInBounds_toArray, List.set_cons_zero, List.set_cons_succ]
              clear a0 a1 a2 a3 a4 a5 b0 b1
              refine wpL_one (i := 9) rfl (by kernel_rfl) rfl (fun K hK => ?_)
              go_simp
              refine (moveN gs p c vn vb mb Nm sm f wd mB x gn ek hMD (fitM_of hS) hS hxat hgn hk0 hk2).mono ?_
              rintro e we ⟨y, rfl, HY, hbe⟩
              refine hK _ _ (fun _ _ => trivial) ?_
              clear hK K
              try simp only [Act.put, List.setIfInBounds_toArray, List.set_cons_zero, List.set_cons_succ]
              refine wpL_one (i := 10) rfl (by kernel_rfl) rfl (fun K hK => ?_)
              go_simp
              refine hK _ _ (fun _ _ => trivial) ?_
              clear hK K
              try simp only [Act.put, List.setIfInBounds_toArray, List.set_cons_zero, List.set_cons_succ]
              have hbf : Below we.heap.size we (we.alloc (.cells #[.int .i64 y.a0, .int .i64 y.a1, .int .i64 y.a2, .int .i64 y.f0, .int .i64 y.f1, .int .i64 y.f2] 87)) := (Below.refl _ _).alloc (Nat.le_refl _) _
              have HBF := (HBD.trans (hbe.mono HBD.size)).trans (hbf.mono (Nat.le_trans HBD.size hbe.size))
              obtain ⟨qv', wg, hrun, hQg, hgg, _⟩ := run_app_q (we.alloc (.cells #[.int .i64 y.a0, .int .i64 y.a1, .int .i64 y.a2, .int .i64 y.f0, .int .i64 y.f1, .int .i64 y.f2] 87)) 103 ((hQD.below hbe).below hbf) HBF.size (by rw [HLN.out]; omega) (StP.new we y)
              obtain ⟨gq, cq, eq1, eq2, _⟩ := ((hQD.below hbe).below hbf).block (by intro e; have := HLN.out; rw [e] at this; simp at this)
              have HBG : Below w3.heap.size w3 wg := HBF.grown hgg HBF.size (fun k hk => by rw [eq1] at hk; cases hk; exact eq2)
              have hRg : PlayR w3 wg gs l (i + 1) qv' := by
                refine ⟨HBG, ?_, HST.out⟩
                rw [List.take_add_one, List.getElem?_eq_getElem hil]
                show QueQ _ _ _ (statesS _ _ (l.take i ++ [l[i]]))
                rw [states_snoc, ← HX.out, ← HV.out, HY.out]
                exact hQg
              refine wpL_one (i := 11) rfl (by kernel_rfl) rfl (fun K hK => ?_)
              refine oper_append_run _ _ _ rfl rfl rfl hrun ?_
              refine hK _ _ (fun _ _ => trivial) ?_
              clear hK K hrun hQg hgg HBF hbf eq1 eq2 HBG hQD hbe
              try simp only [Act.put, List.setIfInBounds_toArray, List.set_cons_zero, List.set_cons_succ]
              refine wpL_free (i := 12) (v := ?vv12) rfl (by kernel_rfl) (fun _ _ _ h => h) rfl ?hy12 ?rest12
              case hy12 => (intro wy; go_simp; try with_reducible rfl)
              try simp only [Act.put, List.setIfInBounds_toArray, List.set_cons_zero, List.set_cons_succ]
              try simp only [Act.put, List.getElem_toArray, List.getElem_cons_succ, List.getElem_cons_zero, List.setIfInBounds_toArray, List.set_cons_zero, List.set_cons_succ]
              refine wpL_done (by kernel_rfl) ?_ _
              simp only [onlyN]
              go_wp2_with fail
              go_roundw
              case rel => exact ⟨i + 1, by go_num, by omega, hRg⟩
              case measure => simp [intOf]; omega
            · go_simp
              refine hK _ _ (fun _ _ => trivial) ?_
              clear hK K
              try simp only [Act.put, List.setIfInBounds_toArray, List.set_cons_zero, List.set_cons_succ]
              refine wpL_one (i := 7) rfl (by kernel_rfl) rfl (fun K hK => ?_)
              go_simp
              refine hK _ _ (fun _ _ => trivial) ?_
              clear hK K
              try simp only [Act.put, List.setIfInBounds_toArray, List.set_cons_zero, List.set_cons_succ]
              clear a0 a1 a2 a3 a4 a5 b0 b1
              refine wpL_one (i := 9) rfl (by kernel_rfl) rfl (fun K hK => ?_)
              go_simp
              refine (moveN gs p c vn vb mb Nm sm f wd mB x gn ek hMD (fitM_of hS) hS hxat hgn hk0 hk2).mono ?_
              rintro e we ⟨y, rfl, HY, hbe⟩
              refine hK _ _ (fun _ _ => trivial) ?_
              clear hK K
              try simp only [Act.put, List.setIfInBounds_toArray, List.set_cons_zero, List.set_cons_succ]
              refine wpL_one (i := 10) rfl (by kernel_rfl) rfl (fun K hK => ?_)
              go_simp
              refine hK _ _ (fun _ _ => trivial) ?_
              clear hK K
              try simp only [Act.put, List.setIfInBounds_toArray, List.set_cons_zero, List.set_cons_succ]
              have hbf : Below we.heap.size we (we.alloc (.cells #[.int .i64 y.a0, .int .i64 y.a1, .int .i64 y.a2, .int .i64 y.f0, .int .i64 y.f1, .int .i64 y.f2] 87)) := (Below.refl _ _).alloc (Nat.le_refl _) _
              have HBF := (HBD.trans (hbe.mono HBD.size)).trans (hbf.mono (Nat.le_trans HBD.size hbe.size))
              obtain ⟨qv', wg, hrun, hQg, hgg, _⟩ := run_app_q (we.alloc (.cells #[.int .i64 y.a0, .int .i64 y.a1, .int .i64 y.a2, .int .i64 y.f0, .int .i64 y.f1, .int .i64 y.f2] 87)) 103 ((hQD.below hbe).below hbf) HBF.size (by rw [HLN.out]; omega) (StP.new we y)
              obtain ⟨gq, cq, eq1, eq2, _⟩ := ((hQD.below hbe).below hbf).block (by intro e; have := HLN.out; rw [e] at this; simp at this)
              have HBG : Below w3.heap.size w3 wg := HBF.grown hgg HBF.size (fun k hk => by rw [eq1] at hk; cases hk; exact eq2)
              have hRg : PlayR w3 wg gs l (i + 1) qv' := by
                refine ⟨HBG, ?_, HST.out⟩
                rw [List.take_add_one, List.getElem?_eq_getElem hil]
                show QueQ _ _ _ (statesS _ _ (l.take i ++ [l[i]]))
                rw [states_snoc, ← HX.out, ← HV.out, HY.out]
                exact hQg
              refine wpL_one (i := 11) rfl (by kernel_rfl) rfl (fun K hK => ?_)
              refine oper_append_run _ _ _ rfl rfl rfl hrun ?_
              refine hK _ _ (fun _ _ => trivial) ?_
              clear hK K hrun hQg hgg HBF hbf eq1 eq2 HBG hQD hbe
              try simp only [Act.put, List.setIfInBounds_toArray, List.set_cons_zero, List.set_cons_succ]
              refine wpL_free (i := 12) (v := ?vv13) rfl (by kernel_rfl) (fun _ _ _ h => h) rfl ?hy13 ?rest13
              case hy13 => (intro wy; go_simp; try with_reducible rfl)
              try simp only [Act.put, List.setIfInBounds_toArray, List.set_cons_zero, List.set_cons_succ]
              try simp only [Act.put, List.getElem_toArray, List.getElem_cons_succ, List.getElem_cons_zero, List.setIfInBounds_toArray, List.set_cons_zero, List.set_cons_succ]
              refine wpL_done (by kernel_rfl) ?_ _
              simp only [onlyN]
              go_wp2_with fail
              go_roundw
              case rel => exact ⟨i + 1, by go_num, by omega, hRg⟩
              case measure => simp [intOf]; omega
        · have hie : i = n := by omega
          subst hie
          clear hin hi
          have hpe : playE gs l = 0 := by
            rw [HPE.out, if_pos]
            have := hR.ok
            rw [List.take_of_length_le (by have := HNL.out; omega)] at this
            exact this
          have hq := hR.q
          rw [List.take_of_length_le (by have := HNL.out; omega)] at hq
          have hMr := hM.below hR.below
          go_wp2_with fail
          go_ret3
          exact ⟨hB3.trans (hR.below.mono hB3.size), Or.inr ⟨hpe, mB, vn, vb, mb, Nm, sm, f, _, rfl, hMr, hq.base hB3.size⟩⟩
end Go.Proofs.YtnkgbocdpngldaaGreatDoor

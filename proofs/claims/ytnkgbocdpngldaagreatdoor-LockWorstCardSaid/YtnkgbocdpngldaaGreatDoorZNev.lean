/-
  LockNever: what a search that finds, and one that does not, say of runs.
  LockNever: the walk.
-/
import Derived.Test.YtnkgbocdpngldaaGreatDoorZArm
set_option linter.unusedVariables false
set_option linter.unusedSimpArgs false
namespace Go.Proofs.YtnkgbocdpngldaaGreatDoor
open Go.RowKit Dc Dg

/-- are the places met? -/
def metG (a b : Int × Int) (x : St) : Bool := metS (a.1.toNat, a.2) (b.1.toNat, b.2) x
/-- what Meet hands back, in four cases -/
inductive MeetIs (gs : List Gd) (a b : Int × Int) : Prop
  | err (n : Int) (h : meetG gs a b = ([], n)) (hn : n ≠ 0) (h4 : n ≠ 4)
  | never (hS : sysS gs = true) (h : meetG gs a b = ([], 4)) (ha : placeOK gs a = true) (hb : placeOK gs b = true) (hm : ∀ l, evsOK gs l = true → metG a b (runS (machOf gs) St.zero l) = false)
  | way (l : List Ev) (hS : sysS gs = true) (h : meetG gs a b = (l, 0)) (ha : placeOK gs a = true) (hb : placeOK gs b = true) (ho : evsOK gs l = true) (hm : metG a b (runS (machOf gs) St.zero l) = true) (hn : ∀ k, k < l.length → metG a b (runS (machOf gs) St.zero (l.take k)) = false)
theorem meet_is (gs : List Gd) (a b : Int × Int) : MeetIs gs a b := by
  by_cases hS : sysS gs = true
  · by_cases hp : (placeOK gs a && placeOK gs b) = true ∧ ¬ a.1 = b.1
    · have hm : meetG gs a b = (match searchS (machOf gs) St.zero (fun _ => true) (metS (a.1.toNat, a.2) (b.1.toNat, b.2)) with | (some y, R) => (wayS R y, 0) | (none, _) => ([], 4)) := by unfold meetG; rw [if_pos hS, if_pos hp]; rfl
      have hsp := search_spec (sys_good hS) (al := fun _ => true) (fd := metS (a.1.toNat, a.2) (b.1.toNat, b.2)) (Mach.At.zero (sys_good hS))
      have hpp := hp.1
      simp only [Bool.and_eq_true] at hpp
      revert hm hsp
      generalize searchS (machOf gs) St.zero (fun _ => true) (metS (a.1.toNat, a.2) (b.1.toNat, b.2)) = res
      intro hm hsp
      match res, hm, hsp with
      | (some y, R), hm, hsp =>
        obtain ⟨w1, w2, w3⟩ := found_way hsp
        refine .way (wayS R y) hS hm hpp.1 hpp.2 (List.all_eq_true.2 (fun v hv => (w3 v hv).1)) ?_ (fun k hk => w2 k hk)
        rw [w1]; exact hsp.fd
      | (none, R), hm, hsp =>
        refine .never hS hm hpp.1 hpp.2 (fun l hl => ?_)
        exact (lost_run hsp l (fun v hv => ⟨List.all_eq_true.1 hl v hv, rfl⟩) St.zero (lost_zero hsp.inv)).2
    · exact .err 2 (by unfold meetG; rw [if_pos hS, if_neg hp]) (by decide) (by decide)
  · exact .err 40 (by unfold meetG; rw [if_neg hS]) (by decide) (by decide)
/-- the states of a run, one by one -/
theorem run_states {gs : List Gd} {l : List Ev} (h : playE gs l = 0) : (runStates gs l).length = l.length ∧ ∀ i (hi : i < (runStates gs l).length), (runStates gs l)[i] = runS (machOf gs) St.zero (l.take (i + 1)) := by
  unfold runStates
  rw [if_pos h]
  obtain ⟨t, h1, h2, h3⟩ := states_cons (machOf gs) St.zero l
  rw [h2]
  refine ⟨h3, fun i hi => ?_⟩
  have := states_get (machOf gs) l St.zero (i + 1) (by omega)
  rw [h1, List.getElem?_cons_succ, List.getElem?_eq_getElem hi] at this
  exact Option.some.inj this
theorem evsOK_take {gs : List Gd} {l : List Ev} (h : evsOK gs l = true) (k : Nat) : evsOK gs (l.take k) = true :=
  List.all_eq_true.2 (fun v hv => List.all_eq_true.1 h v (List.mem_of_mem_take hv))
theorem play_zero {gs : List Gd} {l : List Ev} (h : playE gs l = 0) : sysS gs = true ∧ l.length ≤ 256 ∧ evsOK gs l = true := by
  unfold playE at h
  split at h
  · split at h
    · cases h
    · split at h
      · rename_i a b c; exact ⟨a, by omega, c⟩
      · cases h
  · cases h
theorem play_ok {gs : List Gd} {l : List Ev} (hS : sysS gs = true) (h : evsOK gs l = true) : playE gs l = if 256 < l.length then 3 else 0 := by
  unfold playE
  rw [if_pos hS, if_pos h]
theorem atL_get (n : Nat) (x : St) (hn : n ≤ 3) {g : Nat} (hg : g < n) : ∃ h : g < (atL n x).length, (atL n x)[g] = x.a g := by
  have hl : (atL n x).length = n := by unfold atL; simp; omega
  refine ⟨by omega, ?_⟩
  unfold atL
  rw [List.getElem_take]
  rcases lt3 (show g < 3 by omega) with rfl | rfl | rfl <;> rfl
/-- a guard's rung in a status -/
theorem IntR.rung {B n : Nat} {w : World} {u : Value} {x : St} (h : IntR B w u (atL n x)) (hn : n ≤ 3) (h0 : 0 < n) : ∃ gu ou cu, u = .slice (some ⟨gu, ou, none⟩) n cu ∧ gu < w.heap.size ∧ ∀ g, g < n → w.cell? ⟨gu, ou + g, none⟩ = some (.int .i64 (x.a g)) := by
  have hl : (atL n x).length = n := by unfold atL; simp; omega
  obtain ⟨p, c, e, hc⟩ := h.q.at_
  obtain ⟨b, o, e2, hb, hc2⟩ := hc (by omega)
  subst e2
  rw [hl] at e
  refine ⟨b, o, c, e, hb, fun g hg => ?_⟩
  obtain ⟨h1, h2⟩ := atL_get n x hn hg
  rw [hc2 g h1, h2]
end Go.Proofs.YtnkgbocdpngldaaGreatDoor

namespace Go.Proofs.YtnkgbocdpngldaaGreatDoor
open Go.RowKit Dc Dg

def TrueQ (w : World) (e : Ending) (w' : World) : Prop := e = .returned (.bool true) ∧ Below w.heap.size w w'
theorem EvR.slice {n : Nat} {w : World} {v : Value} {l : List Ev} (h : EvR n w v l) : ∃ p c, v = .slice p l.length c := by
  obtain ⟨p, c, e, _⟩ := h.q.at_
  exact ⟨p, c, e⟩
theorem EvR.small {n : Nat} {w : World} {v : Value} {l : List Ev} (h : EvR n w v l) : l.length ≤ maxLen := by
  rcases h.2 with ⟨_, hn⟩ | ⟨g, cap, cur, _, _, _, h3, h4, _⟩
  · rw [hn]; exact Nat.zero_le _
  · exact Nat.le_trans h3 h4
set_option maxRecDepth 100000 in
set_option maxHeartbeats 8000000 in
theorem neverN (gs : List Gd) (p : Option Addr) (c : Nat) (a1 a2 b1 b2 : Int) (v : Value) (l : List Ev) (w : World) (hP : SysP w p c gs) (hE : EvsQ w v l) (hlen : (l.length : Int) ≤ 9223372036854775807) :
    Calls Tryz.prog 4 #[.agg #[.slice p gs.length c], .agg #[.int .i64 a1, .int .i64 a2, .int .i64 b1, .int .i64 b2], v] w (TrueQ w) := by
  have hb1 : Below w.heap.size w ((w.alloc (.cells #[.slice p gs.length c] 24)).alloc (.cells #[.int .i64 a1, .int .i64 a2, .int .i64 b1, .int .i64 b2] 35)) := ((Below.refl _ _).alloc (Nat.le_refl _) _).alloc (by simp) _
  have s0 : ((w.alloc (.cells #[.slice p gs.length c] 24)).alloc (.cells #[.int .i64 a1, .int .i64 a2, .int .i64 b1, .int .i64 b2] 35)).heap[w.heap.size]? = some (.cells #[.slice p gs.length c] 24 (0, 0)) := (heap_alloc_old _ _ (by simp)).trans (heap_alloc_new _ _)
  have s1 : ((w.alloc (.cells #[.slice p gs.length c] 24)).alloc (.cells #[.int .i64 a1, .int .i64 a2, .int .i64 b1, .int .i64 b2] 35)).heap[w.heap.size + 1]? = some (.cells #[.int .i64 a1, .int .i64 a2, .int .i64 b1, .int .i64 b2] 35 (0, 0)) := by
    have := heap_alloc_new (w.alloc (.cells #[.slice p gs.length c] 24)) (.cells #[.int .i64 a1, .int .i64 a2, .int .i64 b1, .int .i64 b2] 35)
    simpa using this
  have P1 := hP.below hb1
  have E1 := hE.below hb1
  have c0 := blk_cell s0 0
  have d0 := blk_cell s1 0; have d1 := blk_cell s1 1; have d2 := blk_cell s1 2; have d3 := blk_cell s1 3
  go_enter Tryz.func4, Tryz.ntmps4
  go_upto_region 1 with fail
  generalize (w.alloc (.cells #[.slice p gs.length c] 24)).alloc (.cells #[.int .i64 a1, .int .i64 a2, .int .i64 b1, .int .i64 b2] 35) = w1 at *
  go_wp2_with fail
  refine (meetN gs p c (a1, a2) (b1, b2) w1 P1).mono ?_
  rintro e w2 ⟨vw, rfl, hW, hb2⟩
  have P2 := P1.below hb2
  have E2 := E1.below hb2
  have t0 := (hb2.block _ (row_lt s0)).trans s0
  have t1 := (hb2.block _ (row_lt s1)).trans s1
  have HB2 := hb1.trans (hb2.mono hb1.size)
  clear s0 s1 hb2 hb1 P1 E1 c0 d0 d1 d2 d3
  have hMI := meet_is gs (a1, a2) (b1, b2)
  obtain ⟨pw, cw, hvw⟩ := hW.slice
  subst hvw
  cases hMI with
  | err n h hn h4 =>
    rw [h] at hW ⊢
    simp only [List.length_nil]
    have hd : (n == 0) = false := by simp [hn]
    have hd2 : (n != 4) = true := by simp [h4]
    have HN := Lib.hid hn
    have H4 := Lib.hid h4
    clear hn h4 h
    go_wp2_with fail
    refine (worksN w2 P2.X).mono ?_
    rintro e wk ⟨rfl, hbk⟩
    go_wp2_with fail
    go_ret
    exact ⟨rfl, HB2.trans (hbk.mono HB2.size)⟩
  | never hS h ha hb hm =>
    rw [h] at hW ⊢
    clear h
    simp only [List.length_nil]
    have hA := ha
    have hB := hb
    unfold placeOK at hA hB
    simp only [Bool.and_eq_true, decide_eq_true_eq] at hA hB
    obtain ⟨ga, rfl⟩ : ∃ ga : Nat, a1 = ga := ⟨a1.toNat, by omega⟩
    obtain ⟨gb, rfl⟩ : ∃ gb : Nat, b1 = gb := ⟨b1.toNat, by omega⟩
    obtain ⟨hl1, hl3⟩ := sys_len hS
    have hga : ga < gs.length := by omega
    have hgb : gb < gs.length := by omega
    clear hA hB ha hb
    have HM := Lib.hid hm
    clear hm
    have c0 := blk_cell t0 0
    go_wp2_with fail
    refine (runN gs p c v l w2 P2 E2 hlen).mono ?_
    rintro e w3 ⟨hb3, vx, L, rfl, hL, hLm⟩
    have HB3 := HB2.trans (hb3.mono HB2.size)
    have T1 := Lib.hid ((hb3.block _ (row_lt t1)).trans t1)
    have X3 := P2.X.below hb3
    obtain ⟨zE, hz⟩ : ∃ zE, zE = playE gs l := ⟨_, rfl⟩
    rw [← hz]
    have HZ := Lib.hid hz
    obtain ⟨ao, co, rfl⟩ := hL.slice
    obtain ⟨nL, hnL⟩ : ∃ nL, nL = L.length := ⟨_, rfl⟩
    rw [← hnL]
    have hnl : nL = (runStates gs l).length := by rw [hnL, ← hLm]; simp
    rw [← hnL] at hL
    have hnb : nL ≤ 256 := by
      rw [hnl]
      by_cases h0 : playE gs l = 0
      · have h1 := (run_states h0).1; have h2 := (play_zero h0).2.1; omega
      · unfold runStates; rw [if_neg h0]; simp
    have HNL := Lib.hid hnl
    have HLM := Lib.hid hLm
    clear hz hnL hnl hLm c0 t0 t1 hb3 hW
    go_wp2_with fail
    go_loopw [13] (fun s13 wr => ∃ i : Nat, s13 = .int .i64 i ∧ i ≤ nL ∧ Below w3.heap.size w3 wr) (fun s13 _ => nL - (intOf s13).toNat)
    case atStart => exact ⟨0, rfl, by omega, Below.refl _ _⟩
    case round =>
      obtain ⟨i, rfl, hi, hbr⟩ := hrel
      by_cases hin : i < nL
      · have hil : i < (runStates gs l).length := by have := HNL.out; omega
        have hp0 : playE gs l = 0 := Classical.byContradiction (fun h0 => by unfold runStates at hil; rw [if_neg h0] at hil; exact Nat.not_lt_zero _ hil)
        have hz0 : zE = 0 := by rw [HZ.out, hp0]
        subst hz0
        have hyn : metG (ga, a2) (gb, b2) (runStates gs l)[i] = false := by rw [(run_states hp0).2 i hil]; exact HM.out _ (evsOK_take (play_zero hp0).2.2 _)
        have HYN := Lib.hid hyn
        clear hyn hp0
        have hLr := hL.below hbr
        obtain ⟨g, cap, u1, _, e1, hgl, q1, _, i1, _⟩ := stats_at hLr HLM.out (i := i) hil
        rw [Nat.zero_add] at q1
        obtain ⟨gu, ou, cu, rfl, hgu, hcs⟩ := i1.rung hl3 hl1
        obtain ⟨y, hy⟩ : ∃ y, y = (runStates gs l)[i] := ⟨_, rfl⟩
        rw [← hy] at hcs
        have ca := hcs ga hga
        have cb := hcs gb hgb
        have HY := Lib.hid hy
        clear hy hcs i1
        simp only [Value.slice.injEq] at e1
        obtain ⟨rfl, hx, rfl⟩ := e1
        clear hx
        have k1 := (hbr.block _ (row_lt T1.out)).trans T1.out
        have d0 := blk_cell k1 0; have d1 := blk_cell k1 1; have d2 := blk_cell k1 2; have d3 := blk_cell k1 3
        have hme : metG (ga, a2) (gb, b2) y = false := by rw [HY.out]; exact HYN.out
        unfold metG metS at hme
        simp only [Int.toNat_natCast] at hme
        by_cases hya : y.a ga = a2
        · have hda : (y.a ga == a2) = true := by simp [hya]
          have hdb : (y.a gb == b2) = false := by simp only [hya, decide_true, Bool.true_and, decide_eq_false_iff_not] at hme; simp [hme]
          clear hme hya
          go_wp2_with fail
          go_quiet (fail)
          have hbq := below_drewN hbr nq
          go_wp2_with fail
          go_roundw
          case rel => exact ⟨i + 1, by go_num, by omega, hbq⟩
          case measure => simp [intOf]; omega
        · have hda : (y.a ga == a2) = false := by simp [hya]
          clear hme hya
          go_wp2_with fail
          go_quiet (fail)
          have hbq := below_drewN hbr nq
          go_wp2_with fail
          go_roundw
          case rel => exact ⟨i + 1, by go_num, by omega, hbq⟩
          case measure => simp [intOf]; omega
      · have hie : i = nL := by omega
        subst hie
        clear hin hi
        have HBR := HB3.trans (hbr.mono HB3.size)
        go_wp2_with fail
        refine (worksN _ (X3.below hbr)).mono ?_
        rintro e wk ⟨rfl, hbk⟩
        go_wp2_with fail
        go_ret
        exact ⟨rfl, HBR.trans (hbk.mono HBR.size)⟩
  | way l2 hS h ha hb ho hm hn =>
    rw [h] at hW ⊢
    clear h
    simp only
    have hA := ha
    have hB := hb
    unfold placeOK at hA hB
    simp only [Bool.and_eq_true, decide_eq_true_eq] at hA hB
    obtain ⟨ga, rfl⟩ : ∃ ga : Nat, a1 = ga := ⟨a1.toNat, by omega⟩
    obtain ⟨gb, rfl⟩ : ∃ gb : Nat, b1 = gb := ⟨b1.toNat, by omega⟩
    obtain ⟨hl1, hl3⟩ := sys_len hS
    have hga : ga < gs.length := by omega
    have hgb : gb < gs.length := by omega
    clear hA hB ha hb
    have hmz : metS (ga, a2) (gb, b2) (runS (machOf gs) St.zero l2) = true := by have := hm; unfold metG at this; simpa only [Int.toNat_natCast] using this
    have hnz : ∀ k, k < l2.length → metS (ga, a2) (gb, b2) (runS (machOf gs) St.zero (l2.take k)) = false := fun k hk => by have := hn k hk; unfold metG at this; simpa only [Int.toNat_natCast] using this
    have HMZ := Lib.hid hmz
    have HNZ := Lib.hid hnz
    clear hm hn hmz hnz
    have c0 := blk_cell t0 0
    have d1 := blk_cell t1 1
    have d3 := blk_cell t1 3
    by_cases h0 : l2 = []
    · subst h0
      have hmz := HMZ.out
      unfold metS at hmz
      simp only [Bool.and_eq_true, decide_eq_true_eq] at hmz
      have ea : a2 = 0 := by rw [← hmz.1]; exact zero_a ga
      have eb : b2 = 0 := by rw [← hmz.2]; exact zero_a gb
      clear hmz
      subst ea
      subst eb
      simp only [List.length_nil]
      go_wp2_with fail
      refine (worksN w2 P2.X).mono ?_
      rintro e wk ⟨rfl, hbk⟩
      go_wp2_with fail
      go_ret
      exact ⟨rfl, HB2.trans (hbk.mono HB2.size)⟩
    · obtain ⟨n2, hn2⟩ : ∃ n2, n2 = l2.length := ⟨_, rfl⟩
      have hne : 0 < n2 := by rw [hn2]; exact List.length_pos_iff.2 h0
      have hd : (((n2 : Nat) : Int) == 0) = false := by simp; omega
      have hsm := hW.small
      have E3 := hW.q
      rw [← hn2] at hsm E3 ⊢
      have HN2 := Lib.hid hn2
      clear hn2 h0
      go_wp2_with fail
      refine (runN gs p c _ l2 w2 P2 E3 (by rw [← HN2.out]; unfold maxLen at hsm; omega)).mono ?_
      rintro e w3 ⟨hb3, vx, L, rfl, hL, hLm⟩
      have HB3 := HB2.trans (hb3.mono HB2.size)
      have T1 := Lib.hid ((hb3.block _ (row_lt t1)).trans t1)
      have X3 := P2.X.below hb3
      have hpl := play_ok hS ho
      rw [← HN2.out] at hpl
      by_cases hbig : 256 < n2
      · rw [if_pos hbig] at hpl
        rw [hpl]
        clear c0 d1 d3 t0 t1 hW hb3
        obtain ⟨ao, co, rfl⟩ := hL.slice
        obtain ⟨nL, hnL⟩ : ∃ nL, nL = L.length := ⟨_, rfl⟩
        rw [← hnL]
        clear hnL hL hLm
        go_wp2_with fail
        refine (worksN w3 X3).mono ?_
        rintro e wk ⟨rfl, hbk⟩
        go_wp2_with fail
        go_ret
        exact ⟨rfl, HB3.trans (hbk.mono HB3.size)⟩
      · rw [if_neg hbig] at hpl
        rw [hpl]
        obtain ⟨ao, co, rfl⟩ := hL.slice
        have hrs := run_states hpl
        have hnl : L.length = n2 := by rw [HN2.out, ← hrs.1, ← hLm]; simp
        rw [hnl] at hL ⊢
        have hnb : n2 ≤ 256 := by omega
        have HNL := Lib.hid (show n2 = (runStates gs l2).length by rw [hrs.1]; exact HN2.out)
        have HRS := Lib.hid hrs.2
        have HLM := Lib.hid hLm
        clear hrs hnl hLm c0 d1 d3 t0 t1 hb3 hW hpl hbig hsm E3
        go_wp2_with fail
        go_loopw [11] (fun s11 wr => ∃ i : Nat, s11 = .int .i64 i ∧ i ≤ n2 ∧ Below w3.heap.size w3 wr) (fun s11 _ => n2 - (intOf s11).toNat)
        case atStart => exact ⟨0, rfl, by omega, Below.refl _ _⟩
        case round =>
          obtain ⟨i, rfl, hi, hbr⟩ := hrel
          by_cases hin : i < n2
          · have hil : i < (runStates gs l2).length := by have := HNL.out; omega
            have hLr := hL.below hbr
            obtain ⟨g, cap, u1, _, e1, hgl, q1, _, i1, _⟩ := stats_at hLr HLM.out (i := i) hil
            rw [Nat.zero_add] at q1
            obtain ⟨gu, ou, cu, rfl, hgu, hcs⟩ := i1.rung hl3 hl1
            obtain ⟨y, hy⟩ : ∃ y, y = (runStates gs l2)[i] := ⟨_, rfl⟩
            rw [← hy] at hcs
            have ca := hcs ga hga
            have cb := hcs gb hgb
            have HY := Lib.hid hy
            clear hy hcs i1
            simp only [Value.slice.injEq] at e1
            obtain ⟨rfl, hx, rfl⟩ := e1
            clear hx
            have k1 := (hbr.block _ (row_lt T1.out)).trans T1.out
            have d0 := blk_cell k1 0; have d1 := blk_cell k1 1; have d2 := blk_cell k1 2; have d3 := blk_cell k1 3
            by_cases hlast : i + 1 = n2
            · have hme : metS (ga, a2) (gb, b2) y = true := by
                rw [HY.out, HRS.out i hil, hlast, HN2.out, List.take_length]
                exact HMZ.out
              unfold metS at hme
              simp only [Bool.and_eq_true, decide_eq_true_eq] at hme
              have hda : (y.a ga == a2) = true := by simp [hme.1]
              have hdb : (y.a gb == b2) = true := by simp [hme.2]
              have hdl : ((i : Int) == (n2 : Int) - 1) = true := by simp; omega
              clear hme
              clear hlast
              go_wp2_with fail
              go_quiet (fail)
              have hbq := below_drewN hbr nq
              go_wp2_with fail
              go_roundw
              case rel => exact ⟨i + 1, by go_num, by omega, hbq⟩
              case measure => simp [intOf]; omega
            · have hme : metS (ga, a2) (gb, b2) y = false := by
                rw [HY.out, HRS.out i hil]
                exact HNZ.out (i + 1) (by have := HN2.out; omega)
              unfold metS at hme
              simp only at hme
              have hdl : ((i : Int) == (n2 : Int) - 1) = false := by simp; omega
              by_cases hya : y.a ga = a2
              · have hda : (y.a ga == a2) = true := by simp [hya]
                have hdb : (y.a gb == b2) = false := by simp only [hya, decide_true, Bool.true_and, decide_eq_false_iff_not] at hme; simp [hme]
                clear hme hya
                clear hlast
                go_wp2_with fail
                go_quiet (fail)
                have hbq := below_drewN hbr nq
                go_wp2_with fail
                go_roundw
                case rel => exact ⟨i + 1, by go_num, by omega, hbq⟩
                case measure => simp [intOf]; omega
              · have hda : (y.a ga == a2) = false := by simp [hya]
                clear hme hya
                clear hlast
                go_wp2_with fail
                go_quiet (fail)
                have hbq := below_drewN hbr nq
                go_wp2_with fail
                go_roundw
                case rel => exact ⟨i + 1, by go_num, by omega, hbq⟩
                case measure => simp [intOf]; omega
          · have hie : i = n2 := by omega
            subst hie
            clear hin hi
            have HBR := HB3.trans (hbr.mono HB3.size)
            go_wp2_with fail
            refine (worksN _ (X3.below hbr)).mono ?_
            rintro e wk ⟨rfl, hbk⟩
            go_wp2_with fail
            go_ret
            exact ⟨rfl, HBR.trans (hbk.mono HBR.size)⟩
end Go.Proofs.YtnkgbocdpngldaaGreatDoor

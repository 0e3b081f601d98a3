/-
  LockHeld: the walk.
-/
import Derived.Test.YtnkgbocdpngldaaGreatDoorZHel1
import Derived.Test.YtnkgbocdpngldaaGreatDoorZNev
import Derived.Deep.DeepCutAuto
import Derived.Deep.CutBlock
import Derived.Deep.CutRange
set_option linter.unusedVariables false
set_option linter.unusedSimpArgs false
namespace Go.Proofs.YtnkgbocdpngldaaGreatDoor
open Go.RowKit Dc Dg

/-- what LockHeld's walk keeps: the status x in its block -/
structure HelSt (w0 w : World) (gs : List Gd) (p : Option Addr) (c xb : Nat) (y : St) : Prop where
  s : w.heap[w0.heap.size]? = some (.cells #[.slice p gs.length c] 24 (0, 0))
  x : ∃ u1 u2, w.heap[xb]? = some (.cells #[u1, u2] 41 (0, 0)) ∧ StatR 0 gs.length w (.agg #[u1, u2]) y
  hx : w0.heap.size < xb
  ok : StOK gs (atL gs.length y) (failL gs.length y) y
  bl : Below w0.heap.size w0 w
theorem StatR.below {B n : Nat} {w w' : World} {v : Value} {x : St} (h : StatR B n w v x) (hb : Below w.heap.size w w') : StatR B n w' v x := by
  obtain ⟨u1, u2, e, h1, h2⟩ := h
  exact ⟨u1, u2, e, h1.below hb, h2.below hb⟩
theorem StatR.base {B B' n : Nat} {w : World} {v : Value} {x : St} (h : StatR B n w v x) (hb : B' ≤ B) : StatR B' n w v x := by
  obtain ⟨u1, u2, e, h1, h2⟩ := h
  exact ⟨u1, u2, e, h1.base hb, h2.base hb⟩
theorem HelSt.below {w0 w w' : World} {gs : List Gd} {p : Option Addr} {c xb : Nat} {y : St} (h : HelSt w0 w gs p c xb y) (hb : Below w.heap.size w w') : HelSt w0 w' gs p c xb y := by
  obtain ⟨u1, u2, h1, h2⟩ := h.x
  exact ⟨(hb.block _ (row_lt h.s)).trans h.s, ⟨u1, u2, (hb.block _ (row_lt h1)).trans h1, h2.below hb⟩, h.hx, h.ok, h.bl.trans (hb.mono h.bl.size)⟩
/-- a status is stored -/
def putSt2 (w : World) (b : Nat) (u1 u2 : Value) : World := (w.setCell ⟨b, 0, none⟩ u1).setCell ⟨b, 1, none⟩ u2
theorem putSt2_row {w : World} {b : Nat} {v1 v2 u1 u2 : Value} {t : TypeId} (h : w.heap[b]? = some (.cells #[v1, v2] t (0, 0))) : (putSt2 w b u1 u2).heap[b]? = some (.cells #[u1, u2] t (0, 0)) := by
  have e1 := heap_setCell_same w b 0 _ _ u1 h
  exact heap_setCell_same _ b 1 _ _ u2 e1
theorem putSt2_below {w : World} {n b : Nat} {u1 u2 : Value} (hb : n ≤ b) : Below n w (putSt2 w b u1 u2) := ((Below.refl n w).setCell (p := ⟨b, 0, none⟩) hb _).setCell (p := ⟨b, 1, none⟩) hb _
theorem putSt2_other {w : World} {b k : Nat} {u1 u2 : Value} (h : k ≠ b) : (putSt2 w b u1 u2).heap[k]? = w.heap[k]? := by
  unfold putSt2
  rw [Below.heap_setCell _ _ _ _ h, Below.heap_setCell _ _ _ _ h]
theorem StatR.put {B n : Nat} {w : World} {v : Value} {x : St} (h : StatR B n w v x) {b : Nat} (u1 u2 : Value) {cs : Array Value} {t : TypeId} {r : Nat × Nat} (hb : w.heap[b]? = some (.cells cs t r)) (ht : t ≠ 3) : StatR B n (putSt2 w b u1 u2) v x := by
  have key : ∀ {v : Value} {l : List Int}, IntR B w v l → IntR B (putSt2 w b u1 u2) v l := fun hi => hi.same (fun k hk => putSt2_other (fun e => by
    obtain ⟨_, _, cur, h1⟩ := row_type hi hk
    rw [e, hb] at h1
    exact ht (by cases h1; rfl)))
  obtain ⟨a1, a2, e, h1, h2⟩ := h
  exact ⟨a1, a2, e, key h1, key h2⟩
theorem HelSt.put {w0 w : World} {gs : List Gd} {p : Option Addr} {c xb : Nat} {y z : St} (h : HelSt w0 w gs p c xb y) {u1 u2 : Value} (hz : StatR 0 gs.length w (.agg #[u1, u2]) z) (hk : StOK gs (atL gs.length z) (failL gs.length z) z) : HelSt w0 (putSt2 w xb u1 u2) gs p c xb z := by
  obtain ⟨v1, v2, h1, _⟩ := h.x
  have := h.hx
  exact ⟨(putSt2_other (by omega)).trans h.s, ⟨u1, u2, putSt2_row h1, hz.put u1 u2 h1 (by decide)⟩, h.hx, hk, h.bl.trans (putSt2_below (by omega))⟩

/-- what its inner loops keep -/
structure HelZ (w0 w : World) (gs : List Gd) (p : Option Addr) (c xb : Nat) (y : St) (xp1 : Option Addr) (xc1 : Nat) (xp2 : Option Addr) (xc2 yb : Nat) (z : St) (zp1 : Option Addr) (zc1 : Nat) (zp2 : Option Addr) (zc2 eb g0 : Nat) (k0 : Int) : Prop where
  H : HelSt w0 w gs p c xb y
  xr : w.heap[xb]? = some (.cells #[.slice xp1 gs.length xc1, .slice xp2 gs.length xc2] 41 (0, 0))
  xs : IntR 0 w (.slice xp1 gs.length xc1) (atL gs.length y)
  zr : w.heap[yb]? = some (.cells #[.slice zp1 gs.length zc1, .slice zp2 gs.length zc2] 41 (0, 0))
  zs : StatR 0 gs.length w (.agg #[.slice zp1 gs.length zc1, .slice zp2 gs.length zc2]) z
  ev : w.heap[eb]? = some (.cells #[.int .i64 g0, .int .i64 k0] 53 (0, 0))
theorem HelZ.below {w0 w w' : World} {gs : List Gd} {p : Option Addr} {c xb : Nat} {y : St} {xp1 : Option Addr} {xc1 : Nat} {xp2 : Option Addr} {xc2 yb : Nat} {z : St} {zp1 : Option Addr} {zc1 : Nat} {zp2 : Option Addr} {zc2 eb g0 : Nat} {k0 : Int}
    (h : HelZ w0 w gs p c xb y xp1 xc1 xp2 xc2 yb z zp1 zc1 zp2 zc2 eb g0 k0) (hb : Below w.heap.size w w') : HelZ w0 w' gs p c xb y xp1 xc1 xp2 xc2 yb z zp1 zc1 zp2 zc2 eb g0 k0 :=
  ⟨h.H.below hb, (hb.block _ (row_lt h.xr)).trans h.xr, h.xs.below hb, (hb.block _ (row_lt h.zr)).trans h.zr, h.zs.below hb, (hb.block _ (row_lt h.ev)).trans h.ev⟩

theorem HelZ.rungs2 {w0 w : World} {gs : List Gd} {p : Option Addr} {c xb : Nat} {y : St} {xp1 : Option Addr} {xc1 : Nat} {xp2 : Option Addr} {xc2 yb : Nat} {z : St} {zb zo zc1 : Nat} {zp2 : Option Addr} {zc2 eb g0 : Nat} {k0 : Int}
    (h : HelZ w0 w gs p c xb y xp1 xc1 xp2 xc2 yb z (some ⟨zb, zo, none⟩) zc1 zp2 zc2 eb g0 k0) (hn : gs.length ≤ 3) (h0 : 1 ≤ gs.length) : zb < w.heap.size ∧ ∀ g, g < gs.length → w.cell? ⟨zb, zo + g, none⟩ = some (.int .i64 (z.a g)) := by
  obtain ⟨u1, u2, hua, hzi, -⟩ := h.zs
  obtain ⟨rfl, rfl⟩ : u1 = .slice (some ⟨zb, zo, none⟩) gs.length zc1 ∧ u2 = .slice zp2 gs.length zc2 := by simpa using hua.symm
  obtain ⟨b, o, cu, he, hb, hc⟩ := hzi.rung hn h0
  simp only [Value.slice.injEq, Option.some.injEq, Addr.mk.injEq] at he
  obtain ⟨⟨rfl, rfl, -⟩, -, -⟩ := he
  exact ⟨hb, hc⟩
/-- what is read for a rung -/
structure PickP (B yb zb zo g bg og br orr k n c m cq zcu : Nat) (r : Rg) (qn : Option Addr) (cn : Nat) (ql : Option Addr) (cl : Nat) (w : World) : Prop where
  s : w.cell? ⟨B, 0, none⟩ = some (.slice (some ⟨bg, og, none⟩) n c)
  g1 : w.cell? ⟨bg, og + g * 2 + 1, none⟩ = some (.slice (some ⟨br, orr, none⟩) m cq)
  y0 : w.cell? ⟨yb, 0, none⟩ = some (.slice (some ⟨zb, zo, none⟩) n zcu)
  za : w.cell? ⟨zb, zo + g, none⟩ = some (.int .i64 k)
  R : RungAt w br (orr + k * 7) r qn cn ql cl
  lB : B < w.heap.size
  lg : bg < w.heap.size
  ly : yb < w.heap.size
  lz : zb < w.heap.size
  lr : br < w.heap.size
theorem PickP.below {B yb zb zo g bg og br orr k n c m cq zcu : Nat} {r : Rg} {qn : Option Addr} {cn : Nat} {ql : Option Addr} {cl : Nat} {w w' : World} (h : PickP B yb zb zo g bg og br orr k n c m cq zcu r qn cn ql cl w) (hb : Below w.heap.size w w') : PickP B yb zb zo g bg og br orr k n c m cq zcu r qn cn ql cl w' :=
  ⟨(hb.cell (p := ⟨B, 0, none⟩) h.lB).trans h.s, (hb.cell (p := ⟨bg, _, none⟩) h.lg).trans h.g1, (hb.cell (p := ⟨yb, 0, none⟩) h.ly).trans h.y0, (hb.cell (p := ⟨zb, _, none⟩) h.lz).trans h.za, h.R.below h.lr hb, Nat.lt_of_lt_of_le h.lB hb.size, Nat.lt_of_lt_of_le h.lg hb.size, Nat.lt_of_lt_of_le h.ly hb.size, Nat.lt_of_lt_of_le h.lz hb.size, Nat.lt_of_lt_of_le h.lr hb.size⟩

/-- a rung is stored -/
def putRg (w : World) (b : Nat) (r : Rg) (qn : Option Addr) (cn : Nat) (ql : Option Addr) (cl : Nat) : World :=
  ((((((w.setCell ⟨b, 0, none⟩ (.string r.name)).setCell ⟨b, 1, none⟩ (.string r.next)).setCell ⟨b, 2, none⟩ (.string r.back)).setCell ⟨b, 3, none⟩ (.int .i64 r.tries)).setCell ⟨b, 4, none⟩ (.int .i64 r.minutes)).setCell ⟨b, 5, none⟩ (.slice qn r.needs.length cn)).setCell ⟨b, 6, none⟩ (.slice ql r.loops.length cl)
theorem putRg_row {w : World} {b : Nat} {a0 a1 a2 a3 a4 a5 a6 : Value} {t : TypeId} {r : Rg} {qn : Option Addr} {cn : Nat} {ql : Option Addr} {cl : Nat} (h : w.heap[b]? = some (.cells #[a0, a1, a2, a3, a4, a5, a6] t (0, 0))) :
    (putRg w b r qn cn ql cl).heap[b]? = some (.cells #[.string r.name, .string r.next, .string r.back, .int .i64 r.tries, .int .i64 r.minutes, .slice qn r.needs.length cn, .slice ql r.loops.length cl] t (0, 0)) := by
  have h0 : (w.setCell ⟨b, 0, none⟩ (.string r.name)).heap[b]? = some (.cells #[.string r.name, a1, a2, a3, a4, a5, a6] t (0, 0)) := by rw [heap_setCell_same w b 0 _ _ _ h]; rfl
  have h1 : ((w.setCell ⟨b, 0, none⟩ (.string r.name)).setCell ⟨b, 1, none⟩ (.string r.next)).heap[b]? = some (.cells #[.string r.name, .string r.next, a2, a3, a4, a5, a6] t (0, 0)) := by rw [heap_setCell_same _ b 1 _ _ _ h0]; rfl
  have h2 : (((w.setCell ⟨b, 0, none⟩ (.string r.name)).setCell ⟨b, 1, none⟩ (.string r.next)).setCell ⟨b, 2, none⟩ (.string r.back)).heap[b]? = some (.cells #[.string r.name, .string r.next, .string r.back, a3, a4, a5, a6] t (0, 0)) := by rw [heap_setCell_same _ b 2 _ _ _ h1]; rfl
  have h3 : ((((w.setCell ⟨b, 0, none⟩ (.string r.name)).setCell ⟨b, 1, none⟩ (.string r.next)).setCell ⟨b, 2, none⟩ (.string r.back)).setCell ⟨b, 3, none⟩ (.int .i64 r.tries)).heap[b]? = some (.cells #[.string r.name, .string r.next, .string r.back, .int .i64 r.tries, a4, a5, a6] t (0, 0)) := by rw [heap_setCell_same _ b 3 _ _ _ h2]; rfl
  have h4 : (((((w.setCell ⟨b, 0, none⟩ (.string r.name)).setCell ⟨b, 1, none⟩ (.string r.next)).setCell ⟨b, 2, none⟩ (.string r.back)).setCell ⟨b, 3, none⟩ (.int .i64 r.tries)).setCell ⟨b, 4, none⟩ (.int .i64 r.minutes)).heap[b]? = some (.cells #[.string r.name, .string r.next, .string r.back, .int .i64 r.tries, .int .i64 r.minutes, a5, a6] t (0, 0)) := by rw [heap_setCell_same _ b 4 _ _ _ h3]; rfl
  have h5 : ((((((w.setCell ⟨b, 0, none⟩ (.string r.name)).setCell ⟨b, 1, none⟩ (.string r.next)).setCell ⟨b, 2, none⟩ (.string r.back)).setCell ⟨b, 3, none⟩ (.int .i64 r.tries)).setCell ⟨b, 4, none⟩ (.int .i64 r.minutes)).setCell ⟨b, 5, none⟩ (.slice qn r.needs.length cn)).heap[b]? = some (.cells #[.string r.name, .string r.next, .string r.back, .int .i64 r.tries, .int .i64 r.minutes, .slice qn r.needs.length cn, a6] t (0, 0)) := by rw [heap_setCell_same _ b 5 _ _ _ h4]; rfl
  unfold putRg
  rw [heap_setCell_same _ b 6 _ _ _ h5]; rfl
theorem putRg_below {w : World} {n b : Nat} {r : Rg} {qn : Option Addr} {cn : Nat} {ql : Option Addr} {cl : Nat} (hb : n ≤ b) : Below n w (putRg w b r qn cn ql cl) :=
  (((((((Below.refl n w).setCell (p := ⟨b, 0, none⟩) hb _).setCell (p := ⟨b, 1, none⟩) hb _).setCell (p := ⟨b, 2, none⟩) hb _).setCell (p := ⟨b, 3, none⟩) hb _).setCell (p := ⟨b, 4, none⟩) hb _).setCell (p := ⟨b, 5, none⟩) hb _).setCell (p := ⟨b, 6, none⟩) hb _

set_option maxRecDepth 100000 in
set_option maxHeartbeats 8000000 in
theorem lockHeldN (gs : List Gd) (p : Option Addr) (c : Nat) (v : Value) (l : List Ev) (w : World) (hP : SysP w p c gs) (hE : EvsQ w v l) (hlen : (l.length : Int) ≤ 9223372036854775807) :
    Calls Tryz.prog 7 #[.agg #[.slice p gs.length c], v] w (TrueQ w) := by
  obtain ⟨pv, cv, rfl, hcv⟩ := hE.at_
  have hb1 : Below w.heap.size w (w.alloc (.cells #[.slice p gs.length c] 24)) := (Below.refl _ _).alloc (Nat.le_refl _) _
  have s0 : (w.alloc (.cells #[.slice p gs.length c] 24)).heap[w.heap.size]? = some (.cells #[.slice p gs.length c] 24 (0, 0)) := heap_alloc_new _ _
  have P1 := hP.below hb1
  have x0 := blk_cell s0 0
  go_enter Tryz.func7, Tryz.ntmps7
  go_upto_region 1 with fail
  generalize w.alloc (.cells #[.slice p gs.length c] 24) = w1 at *
  refine wp_region_lit ?_
  refine wpList_plain rfl (fun K hK => ?_)
  go_simp
  refine hK _ _ ?_
  clear hK K
  try simp only [Act.put, List.getElem_toArray, List.getElem_cons_succ, List.getElem_cons_zero, List.setIfInBounds_toArray, List.set_cons_zero, List.set_cons_succ]
  refine wpList_plain rfl (fun K hK => ?_)
  go_simp
  refine (startN gs p c w1 P1).mono ?_
  intro e w2 hq
  obtain ⟨hb2, hq⟩ := hq
  have P2 := P1.below hb2
  have s2 := (hb2.block _ (row_lt s0)).trans s0
  have HB2 := hb1.trans (hb2.mono hb1.size)
  have hsz1 : w.heap.size < w1.heap.size := row_lt s0
  have hsz2 : w1.heap.size ≤ w2.heap.size := hb2.size
  clear x0 s0 P1 hb1 hb2
  rcases hq with ⟨hS, rfl⟩ | ⟨hS, u, rfl, hu⟩
  · refine hK _ _ ?_
    clear hK K
    unfold nilStat
    go_wp2_with fail
    all_goals
      refine (worksN _ (P2.X.below ((Below.refl _ _).alloc (Nat.le_refl _) _))).mono ?_
      rintro e wk ⟨rfl, hbk⟩
      go_wp2_with fail
      go_ret
      exact ⟨rfl, HB2.trans ((((Below.refl _ _).alloc (Nat.le_refl _) _).trans (hbk.mono (by simp))).mono HB2.size)⟩
  · obtain ⟨hn1, hn3⟩ := sys_len hS
    obtain ⟨p1, c1, p2, c2, rfl, hI1, hI2⟩ := hu.two hn3
    refine hK _ _ ?_
    clear hK K
    try simp only [Act.put, List.getElem_toArray, List.getElem_cons_succ, List.getElem_cons_zero, List.setIfInBounds_toArray, List.set_cons_zero, List.set_cons_succ]
    refine wpList_plain rfl (fun K hK => ?_)
    go_simp
    refine hK _ _ ?_
    clear hK K
    try simp only [Act.put, List.getElem_toArray, List.getElem_cons_succ, List.getElem_cons_zero, List.setIfInBounds_toArray, List.set_cons_zero, List.set_cons_succ]
    refine wpList_plain rfl (fun K hK => ?_)
    go_simp
    refine hK _ _ ?_
    clear hK K
    try simp only [Act.put, List.getElem_toArray, List.getElem_cons_succ, List.getElem_cons_zero, List.setIfInBounds_toArray, List.set_cons_zero, List.set_cons_succ]
    refine wpList_plain rfl (fun K hK => ?_)
    go_simp
    refine hK _ _ ?_
    clear hK K
    try simp only [Act.put, List.getElem_toArray, List.getElem_cons_succ, List.getElem_cons_zero, List.setIfInBounds_toArray, List.set_cons_zero, List.set_cons_succ]
    refine wpList_plain rfl (fun K hK => ?_)
    go_simp
    refine hK _ _ ?_
    clear hK K
    try simp only [Act.put, List.getElem_toArray, List.getElem_cons_succ, List.getElem_cons_zero, List.setIfInBounds_toArray, List.set_cons_zero, List.set_cons_succ]
    have x1 := heap_alloc_new w2 (.cells #[.slice none 0 0, .slice none 0 0] 41)
    have hb3 : Below w2.heap.size w2 (w2.alloc (.cells #[.slice none 0 0, .slice none 0 0] 41)) := (Below.refl _ _).alloc (Nat.le_refl _) _
    generalize w2.alloc (.cells #[.slice none 0 0, .slice none 0 0] 41) = w3 at x1 hb3 ⊢
    have q0 := blk_cell x1 0
    have q1 := blk_cell x1 1
    have f0 := frozen_of_row w3 w2.heap.size 0 _ _ x1
    have f1 := frozen_of_row w3 w2.heap.size 1 _ _ x1
    refine wpList_plain rfl (fun K hK => ?_)
    go_simp
    refine hK _ _ ?_
    clear hK K
    try simp only [Act.put, List.getElem_toArray, List.getElem_cons_succ, List.getElem_cons_zero, List.setIfInBounds_toArray, List.set_cons_zero, List.set_cons_succ]
    clear q0 q1 f0 f1
    change wpList _ _ _ _ _ (putSt2 w3 w2.heap.size (.slice p1 gs.length c1) (.slice p2 gs.length c2))
    have HX : Hid (HelSt w (putSt2 w3 w2.heap.size (.slice p1 gs.length c1) (.slice p2 gs.length c2)) gs p c w2.heap.size St.zero) :=
      ⟨(putSt2_other (by omega)).trans ((hb3.block _ (row_lt s2)).trans s2), ⟨_, _, putSt2_row x1, ((StatR.base ⟨_, _, rfl, hI1, hI2⟩ (Nat.zero_le _)).below hb3).put _ _ x1 (by decide)⟩, by omega, ok_of (Mach.At.zero (sys_good hS)) (zero_held (sys_good hS)), (HB2.trans (hb3.mono HB2.size)).trans (putSt2_below (by omega))⟩
    have HP := Lib.hid hP
    have HE := Lib.hid hE
    have HXB : Hid (w.heap.size < w2.heap.size) := by unfold Hid; omega
    clear hI1 hI2 x1 hb3 s2 P2 HB2 hP hE hcv hsz1 hsz2
    generalize putSt2 w3 w2.heap.size (.slice p1 gs.length c1) (.slice p2 gs.length c2) = w4 at HX ⊢
    generalize w2.heap.size = xb at HX HXB ⊢
    go_wp2_with fail
    go_loopw [7] (fun s7 wr => ∃ (i : Nat) (y : St), s7 = .int .i64 i ∧ i ≤ l.length ∧ i ≤ 200 ∧ HelSt w wr gs p c xb y) (fun s7 _ => 200 - (intOf s7).toNat)
    case atStart => exact ⟨0, _, rfl, by omega, by omega, HX.out⟩
    case round =>
      obtain ⟨i, y, rfl, hi, hi2, H⟩ := hrel
      by_cases hil : i < l.length ∧ i < 200
      · have hd1 : decide ((i : Int) < ((l.length : Nat) : Int)) = true := by simp; omega
        have hd2 : decide ((i : Int) < 200) = true := by simp; omega
        go_upto_region 7 with fail
        obtain ⟨pv', cv', ev', hcv⟩ := (HE.out.below H.bl).at_
        simp only [Value.slice.injEq] at ev'
        obtain ⟨rfl, -, rfl⟩ := ev'
        obtain ⟨bl, ol, rfl, hbl, hcs⟩ := hcv (by omega)
        obtain ⟨y1, y2⟩ := hcs i hil.1
        have hblw : bl < w.heap.size ∨ True := Or.inr trivial
        obtain ⟨eg, heg⟩ : ∃ eg, eg = l[i].g := ⟨_, rfl⟩
        obtain ⟨ek, hek⟩ : ∃ ek, ek = l[i].k := ⟨_, rfl⟩
        rw [← heg] at y1
        rw [← hek] at y2
        clear heg hek hcs hcv hblw
        have hbd : Below wr.heap.size wr wr.drew := below_drewN (Below.refl wr.heap.size wr) 1
        have Hd := H.below hbd
        have hS : (fun wy : World => wy.cell? ⟨w.heap.size, 0, none⟩ = some (.slice p gs.length c) ∧ wy.cell? ⟨bl, ol + i * 2, none⟩ = some (.int .i64 eg) ∧ wy.cell? ⟨bl, ol + i * 2 + 1, none⟩ = some (.int .i64 ek)) wr.drew :=
          ⟨blk_cell Hd.s 0, (hbd.cell (p := ⟨bl, _, none⟩) hbl).trans y1, (hbd.cell (p := ⟨bl, _, none⟩) hbl).trans y2⟩
        have hiI : (i : Int) < (l.length : Int) := by omega
        clear y1 y2 hbd H
        refine wp_region_late (fun wy : World => wy.cell? ⟨w.heap.size, 0, none⟩ = some (.slice p gs.length c) ∧ wy.cell? ⟨bl, ol + i * 2, none⟩ = some (.int .i64 eg) ∧ wy.cell? ⟨bl, ol + i * 2 + 1, none⟩ = some (.int .i64 ek)) (fun i => Nat.beq i 17) (by kernel_rfl) ?_
        have hwr : wr.heap.size ≤ wr.drew.heap.size := Nat.le_refl _
        generalize wr.drew = w5 at hS Hd hwr ⊢
        refine wpL_free (i := 0) (v := ?vv1) rfl (by kernel_rfl) (fun _ _ _ h => h) rfl ?hy1 ?rest1
        case hy1 => (intro wy; go_simp; try with_reducible rfl)
        try simp only [Act.put, List.getElem_toArray, List.getElem_cons_succ, List.getElem_cons_zero, List.setIfInBounds_toArray, List.set_cons_zero, List.set_cons_succ]
        refine wpL_free (i := 1) (v := ?vv2) rfl (by kernel_rfl) (fun _ _ _ h => h) rfl ?hy2 ?rest2
        case hy2 => (intro wy; go_simp; try with_reducible rfl)
        try simp only [Act.put, List.getElem_toArray, List.getElem_cons_succ, List.getElem_cons_zero, List.setIfInBounds_toArray, List.set_cons_zero, List.set_cons_succ]
        refine wpL_free (i := 2) (v := ?vv3) rfl (by kernel_rfl) (fun _ _ _ h => h) rfl ?hy3 ?rest3
        case hy3 => (intro wy; go_simp; try with_reducible rfl)
        try simp only [Act.put, List.getElem_toArray, List.getElem_cons_succ, List.getElem_cons_zero, List.setIfInBounds_toArray, List.set_cons_zero, List.set_cons_succ]
        refine wpL_free (i := 3) (v := ?vv4) rfl (by kernel_rfl) (fun _ _ _ h => h) rfl ?hy4 ?rest4
        case hy4 => (intro wy; go_simp; try with_reducible rfl)
        try simp only [Act.put, List.getElem_toArray, List.getElem_cons_succ, List.getElem_cons_zero, List.setIfInBounds_toArray, List.set_cons_zero, List.set_cons_succ]
        refine wpL_take (i := 4) (v := ?vv5) rfl (by kernel_rfl) (fun _ _ _ h => h) rfl hS ?hy5 ?rest5
        case hy5 => (intro wy hy; (try dsimp only at hy); go_simp; try with_reducible rfl)
        try simp only [Act.put, List.getElem_toArray, List.getElem_cons_succ, List.getElem_cons_zero, List.setIfInBounds_toArray, List.set_cons_zero, List.set_cons_succ]
        refine wpL_free (i := 5) (v := ?vv6) rfl (by kernel_rfl) (fun _ _ _ h => h) rfl ?hy6 ?rest6
        case hy6 => (intro wy; go_simp; try with_reducible rfl)
        try simp only [Act.put, List.getElem_toArray, List.getElem_cons_succ, List.getElem_cons_zero, List.setIfInBounds_toArray, List.set_cons_zero, List.set_cons_succ]
        refine wpL_take (i := 6) (v := ?vv7) rfl (by kernel_rfl) (fun _ _ _ h => h) rfl hS ?hy7 ?rest7
        case hy7 => (intro wy hy; (try dsimp only at hy); go_simp; try with_reducible rfl)
        try simp only [Act.put, List.getElem_toArray, List.getElem_cons_succ, List.getElem_cons_zero, List.setIfInBounds_toArray, List.set_cons_zero, List.set_cons_succ]
        refine wpL_free (i := 7) (v := ?vv8) rfl (by kernel_rfl) (fun _ _ _ h => h) rfl ?hy8 ?rest8
        case hy8 => (intro wy; go_simp; try with_reducible rfl)
        try simp only [Act.put, List.getElem_toArray, List.getElem_cons_succ, List.getElem_cons_zero, List.setIfInBounds_toArray, List.set_cons_zero, List.set_cons_succ]
        refine wpL_call (i := 8) (v := .int .i64 (eg % (gs.length : Int))) rfl (by kernel_rfl) (fun _ _ _ h => h) rfl (f := 27) (args := #[.int .i64 eg, .int .i64 (gs.length : Int)]) ?hyc1 (fun wy => modN _ _ (by omega) (by omega) wy) ?restc1
        case hyc1 => (intro wy; go_simp; try with_reducible rfl)
        try simp only [Act.put, List.getElem_toArray, List.getElem_cons_succ, List.getElem_cons_zero, List.setIfInBounds_toArray, List.set_cons_zero, List.set_cons_succ]
        refine wpL_free (i := 9) (v := ?vv9) rfl (by kernel_rfl) (fun _ _ _ h => h) rfl ?hy9 ?rest9
        case hy9 => (intro wy; go_simp; try with_reducible rfl)
        try simp only [Act.put, List.getElem_toArray, List.getElem_cons_succ, List.getElem_cons_zero, List.setIfInBounds_toArray, List.set_cons_zero, List.set_cons_succ]
        refine wpL_free (i := 10) (v := ?vv10) rfl (by kernel_rfl) (fun _ _ _ h => h) rfl ?hy10 ?rest10
        case hy10 => (intro wy; go_simp; try with_reducible rfl)
        try simp only [Act.put, List.getElem_toArray, List.getElem_cons_succ, List.getElem_cons_zero, List.setIfInBounds_toArray, List.set_cons_zero, List.set_cons_succ]
        refine wpL_free (i := 11) (v := ?vv11) rfl (by kernel_rfl) (fun _ _ _ h => h) rfl ?hy11 ?rest11
        case hy11 => (intro wy; go_simp; try with_reducible rfl)
        try simp only [Act.put, List.getElem_toArray, List.getElem_cons_succ, List.getElem_cons_zero, List.setIfInBounds_toArray, List.set_cons_zero, List.set_cons_succ]
        refine wpL_free (i := 12) (v := ?vv12) rfl (by kernel_rfl) (fun _ _ _ h => h) rfl ?hy12 ?rest12
        case hy12 => (intro wy; go_simp; try with_reducible rfl)
        try simp only [Act.put, List.getElem_toArray, List.getElem_cons_succ, List.getElem_cons_zero, List.setIfInBounds_toArray, List.set_cons_zero, List.set_cons_succ]
        refine wpL_take (i := 13) (v := ?vv13) rfl (by kernel_rfl) (fun _ _ _ h => h) rfl hS ?hy13 ?rest13
        case hy13 => (intro wy hy; (try dsimp only at hy); go_simp; try with_reducible rfl)
        try simp only [Act.put, List.getElem_toArray, List.getElem_cons_succ, List.getElem_cons_zero, List.setIfInBounds_toArray, List.set_cons_zero, List.set_cons_succ]
        refine wpL_call (i := 14) (v := .int .i64 (ek % 3)) rfl (by kernel_rfl) (fun _ _ _ h => h) rfl (f := 27) (args := #[.int .i64 ek, .int .i64 3]) ?hyc2 (fun wy => modN _ _ (by omega) (by omega) wy) ?restc2
        case hyc2 => (intro wy; go_simp; try with_reducible rfl)
        try simp only [Act.put, List.getElem_toArray, List.getElem_cons_succ, List.getElem_cons_zero, List.setIfInBounds_toArray, List.set_cons_zero, List.set_cons_succ]
        refine wpL_free (i := 15) (v := ?vv14) rfl (by kernel_rfl) (fun _ _ _ h => h) rfl ?hy14 ?rest14
        case hy14 => (intro wy; go_simp; try with_reducible rfl)
        try simp only [Act.put, List.getElem_toArray, List.getElem_cons_succ, List.getElem_cons_zero, List.setIfInBounds_toArray, List.set_cons_zero, List.set_cons_succ]
        have hg0 := Int.emod_nonneg eg (show (gs.length : Int) ≠ 0 by omega)
        have hg1 := Int.emod_lt_of_pos eg (show (0 : Int) < gs.length by omega)
        have hk0 := Int.emod_nonneg ek (show (3 : Int) ≠ 0 by omega)
        have hk1 := Int.emod_lt_of_pos ek (show (0 : Int) < 3 by omega)
        obtain ⟨g0, hgg⟩ : ∃ g0 : Nat, eg % (gs.length : Int) = (g0 : Int) := ⟨(eg % (gs.length : Int)).toNat, by omega⟩
        obtain ⟨k0, hkk⟩ : ∃ k0, ek % 3 = k0 := ⟨_, rfl⟩
        rw [hgg] at hg0 hg1 ⊢
        rw [hkk] at hk0 hk1 ⊢
        have e1 := heap_alloc_new w5 (.cells #[.int .i64 0, .int .i64 0] 53)
        have hb5 : Below w5.heap.size w5 (w5.alloc (.cells #[.int .i64 0, .int .i64 0] 53)) := (Below.refl _ _).alloc (Nat.le_refl _) _
        refine wpL_one (i := 16) rfl (by kernel_rfl) rfl (fun K hK => ?_)
        go_simp
        refine hK _ _ (fun _ h => ⟨(hb5.cell (p := ⟨w.heap.size, 0, none⟩) (row_lt Hd.s)).trans h.1, (hb5.cell (p := ⟨bl, _, none⟩) (Nat.lt_of_lt_of_le hbl (Nat.le_trans (Nat.le_of_eq rfl) hwr))).trans h.2.1, (hb5.cell (p := ⟨bl, _, none⟩) (Nat.lt_of_lt_of_le hbl hwr)).trans h.2.2⟩) ?_
        clear hK K hS
        try simp only [Act.put, List.getElem_toArray, List.getElem_cons_succ, List.getElem_cons_zero, List.setIfInBounds_toArray, List.set_cons_zero, List.set_cons_succ]
        have He := Hd.below hb5
        have heb : w5.heap.size < (w5.alloc (.cells #[.int .i64 0, .int .i64 0] 53)).heap.size := by simp
        have hxe : xb < w5.heap.size := by obtain ⟨_, _, h, _⟩ := Hd.x; exact row_lt h
        clear hb5 Hd hwr
        generalize w5.alloc (.cells #[.int .i64 0, .int .i64 0] 53) = w6 at He e1 heb ⊢
        generalize w5.heap.size = eb at e1 heb hxe ⊢
        have q0 := blk_cell e1 0
        have q1 := blk_cell e1 1
        have f0 := frozen_of_row w6 eb 0 _ _ e1
        have f1 := frozen_of_row w6 eb 1 _ _ e1
        refine wpL_one (i := 17) rfl (by kernel_rfl) rfl (fun K hK => ?_)
        go_simp
        change K _ (putSt2 w6 eb (.int .i64 g0) (.int .i64 k0))
        refine hK _ _ (fun h => by cases h) ?_
        clear hK K q0 q1 f0 f1
        try simp only [Act.put, List.getElem_toArray, List.getElem_cons_succ, List.getElem_cons_zero, List.setIfInBounds_toArray, List.set_cons_zero, List.set_cons_succ]
        refine wpL_done (by kernel_rfl) ?_ _
        have e2 := putSt2_row (u1 := .int .i64 g0) (u2 := .int .i64 k0) e1
        have Hf : HelSt w (putSt2 w6 eb (.int .i64 g0) (.int .i64 k0)) gs p c xb y := by
          have hlt : w.heap.size < xb := He.hx
          obtain ⟨v1, v2, h1, h2⟩ := He.x
          exact ⟨(putSt2_other (by omega)).trans He.s, ⟨v1, v2, (putSt2_other (by omega)).trans h1, h2.put _ _ e1 (by decide)⟩, He.hx, He.ok, He.bl.trans (putSt2_below (by omega))⟩
        clear e1 He heb
        generalize putSt2 w6 eb (.int .i64 g0) (.int .i64 k0) = w7 at e2 Hf ⊢
        obtain ⟨v1, v2, hxr, hxs⟩ := Hf.x
        obtain ⟨xp1, xc1, xp2, xc2, hvv, hxi1, hxi2⟩ := hxs.two hn3
        simp only [Value.agg.injEq] at hvv
        obtain ⟨rfl, rfl⟩ : v1 = .slice xp1 gs.length xc1 ∧ v2 = .slice xp2 gs.length xc2 := by simpa using hvv
        have a0 := blk_cell Hf.s 0
        have a1 := blk_cell hxr 0
        have a2 := blk_cell hxr 1
        have a3 := blk_cell e2 0
        have a4 := blk_cell e2 1
        go_upto_region 8 with fail
        refine wp_region_lit ?_
        refine wpList_plain rfl (fun K hK => ?_)
        go_simp
        refine hK _ _ ?_
        clear hK K
        try simp only [Act.put, List.getElem_toArray, List.getElem_cons_succ, List.getElem_cons_zero, List.setIfInBounds_toArray, List.set_cons_zero, List.set_cons_succ]
        refine wpList_plain rfl (fun K hK => ?_)
        go_simp
        refine hK _ _ ?_
        clear hK K
        try simp only [Act.put, List.getElem_toArray, List.getElem_cons_succ, List.getElem_cons_zero, List.setIfInBounds_toArray, List.set_cons_zero, List.set_cons_succ]
        refine wpList_plain rfl (fun K hK => ?_)
        go_simp
        refine hK _ _ ?_
        clear hK K
        try simp only [Act.put, List.getElem_toArray, List.getElem_cons_succ, List.getElem_cons_zero, List.setIfInBounds_toArray, List.set_cons_zero, List.set_cons_succ]
        refine wpList_plain rfl (fun K hK => ?_)
        go_simp
        have hev : okEv (machOf gs) ⟨g0, k0⟩ = true := okEv_iff.2 ⟨by show (0 : Int) ≤ g0; omega, by show (g0 : Int) < gs.length; omega, hk0, by show k0 ≤ 2; omega⟩
        refine (lockMoveN gs p c w7 _ (atL gs.length y) (failL gs.length y) ⟨g0, k0⟩ (HP.out.below Hf.bl) hxs.q).mono ?_
        intro e w8 hq
        obtain ⟨hb8, u, rfl, hu⟩ := hq.good hS Hf.ok hev
        obtain ⟨zp1, zc1, zp2, zc2, rfl, hz1, hz2⟩ := hu.two hn3
        refine hK _ _ ?_
        clear hK K a0 a1 a2 a3 a4
        try simp only [Act.put, List.getElem_toArray, List.getElem_cons_succ, List.getElem_cons_zero, List.setIfInBounds_toArray, List.set_cons_zero, List.set_cons_succ]
        have hzk : StOK gs (atL gs.length (moveS (machOf gs) y ⟨g0, k0⟩)) (failL gs.length (moveS (machOf gs) y ⟨g0, k0⟩)) (moveS (machOf gs) y ⟨g0, k0⟩) := ok_of (move_at (sys_good hS) Hf.ok.at_ hev) (move_holds (sys_good hS) Hf.ok.at_ hev)
        have hzl : Hid (∀ j, j < 3 → ¬ (j = g0 ∧ k0 = 0) → (moveS (machOf gs) y ⟨g0, k0⟩).a j ≤ y.a j) := fun j hj hc => move_le (sys_good hS) Hf.ok.at_ hev hj (fun h => hc ⟨by simpa using h.1, h.2⟩)
        generalize moveS (machOf gs) y ⟨g0, k0⟩ = z at hu hz1 hz2 hzk hzl
        have Hg := Hf.below hb8
        have e3 := (hb8.block _ (row_lt e2)).trans e2
        clear e2 hxr hxs hxi1 hxi2 hb8 Hf hev hq
        refine wpList_plain rfl (fun K hK => ?_)
        go_simp
        refine hK _ _ ?_
        clear hK K
        try simp only [Act.put, List.getElem_toArray, List.getElem_cons_succ, List.getElem_cons_zero, List.setIfInBounds_toArray, List.set_cons_zero, List.set_cons_succ]
        refine wpList_plain rfl (fun K hK => ?_)
        go_simp
        refine hK _ _ ?_
        clear hK K
        try simp only [Act.put, List.getElem_toArray, List.getElem_cons_succ, List.getElem_cons_zero, List.setIfInBounds_toArray, List.set_cons_zero, List.set_cons_succ]
        refine wpList_plain rfl (fun K hK => ?_)
        go_simp
        refine hK _ _ ?_
        clear hK K
        try simp only [Act.put, List.getElem_toArray, List.getElem_cons_succ, List.getElem_cons_zero, List.setIfInBounds_toArray, List.set_cons_zero, List.set_cons_succ]
        have z1 := heap_alloc_new w8 (.cells #[.slice none 0 0, .slice none 0 0] 41)
        have hb9 : Below w8.heap.size w8 (w8.alloc (.cells #[.slice none 0 0, .slice none 0 0] 41)) := (Below.refl _ _).alloc (Nat.le_refl _) _
        refine wpList_plain rfl (fun K hK => ?_)
        go_simp
        refine hK _ _ ?_
        clear hK K
        try simp only [Act.put, List.getElem_toArray, List.getElem_cons_succ, List.getElem_cons_zero, List.setIfInBounds_toArray, List.set_cons_zero, List.set_cons_succ]
        have hez : eb < w8.heap.size := row_lt e3
        have Hh := Hg.below hb9
        have e4 := (hb9.block _ (row_lt e3)).trans e3
        have hu9 := hu.below hb9
        clear hb9 Hg e3 hu hz1 hz2
        generalize w8.alloc (.cells #[.slice none 0 0, .slice none 0 0] 41) = w9 at z1 Hh e4 hu9 ⊢
        generalize w8.heap.size = yb at z1 hez ⊢
        have q0 := blk_cell z1 0
        have q1 := blk_cell z1 1
        have f0 := frozen_of_row w9 yb 0 _ _ z1
        have f1 := frozen_of_row w9 yb 1 _ _ z1
        refine wpList_plain rfl (fun K hK => ?_)
        go_simp
        refine hK _ _ ?_
        clear hK K
        try simp only [Act.put, List.getElem_toArray, List.getElem_cons_succ, List.getElem_cons_zero, List.setIfInBounds_toArray, List.set_cons_zero, List.set_cons_succ]
        clear q0 q1 f0 f1
        change wpList _ _ _ _ _ (putSt2 w9 yb (.slice zp1 gs.length zc1) (.slice zp2 gs.length zc2))
        have z2 := putSt2_row (u1 := .slice zp1 gs.length zc1) (u2 := .slice zp2 gs.length zc2) z1
        have hu10 := hu9.put (.slice zp1 gs.length zc1) (.slice zp2 gs.length zc2) z1 (by decide)
        have e5 := (putSt2_other (u1 := .slice zp1 gs.length zc1) (u2 := .slice zp2 gs.length zc2) (w := w9) (show eb ≠ yb by omega)).trans e4
        have Hi : HelSt w (putSt2 w9 yb (.slice zp1 gs.length zc1) (.slice zp2 gs.length zc2)) gs p c xb y := by
          have hlt : w.heap.size < xb := Hh.hx
          obtain ⟨v1, v2, h1, h2⟩ := Hh.x
          exact ⟨(putSt2_other (by omega)).trans Hh.s, ⟨v1, v2, (putSt2_other (by omega)).trans h1, h2.put _ _ z1 (by decide)⟩, Hh.hx, Hh.ok, Hh.bl.trans (putSt2_below (by omega))⟩
        clear z1 hu9 e4 Hh
        generalize putSt2 w9 yb (.slice zp1 gs.length zc1) (.slice zp2 gs.length zc2) = wa at z2 hu10 e5 Hi ⊢
        have HK := Lib.hid hzk
        obtain ⟨xp1, xc1, xp2, xc2, hxr2⟩ : ∃ xp1 xc1 xp2 xc2, wa.heap[xb]? = some (.cells #[.slice xp1 gs.length xc1, .slice xp2 gs.length xc2] 41 (0, 0)) ∧ IntR 0 wa (.slice xp1 gs.length xc1) (atL gs.length y) := by
          obtain ⟨v1, v2, h1, h2⟩ := Hi.x
          obtain ⟨xp1, xc1, xp2, xc2, hvv, h3, _⟩ := h2.two hn3
          obtain ⟨rfl, rfl⟩ : v1 = .slice xp1 gs.length xc1 ∧ v2 = .slice xp2 gs.length xc2 := by simpa using hvv
          exact ⟨xp1, xc1, xp2, xc2, h1, h3⟩
        have Z : HelZ w wa gs p c xb y xp1 xc1 xp2 xc2 yb z zp1 zc1 zp2 zc2 eb g0 k0 := ⟨Hi, hxr2.1, hxr2.2, z2, hu10.base (Nat.zero_le _), e5⟩
        clear Hi hxr2 z2 hu10 e5 hzk
        have a0 := blk_cell Z.H.s 0
        have b0 := blk_cell Z.zr 0
        have b1 := blk_cell Z.zr 1
        go_wp2_with fail
        refine (checkStatusN gs p c wa _ (atL gs.length z) (failL gs.length z) (HP.out.below Z.H.bl) Z.zs.q).mono ?_
        intro e wb hq
        obtain ⟨rfl, hbb⟩ := hq.good hS HK.out
        have Zb := Z.below hbb
        clear Z a0 b0 b1 hbb hq
        have a0 := blk_cell Zb.H.s 0
        have b0 := blk_cell Zb.zr 0
        go_wp2_with fail
        have HZB := Lib.hid Zb
        clear Zb a0 b0
        go_loopw [11] (fun s11 wx => ∃ g : Nat, s11 = .int .i64 g ∧ g ≤ gs.length ∧ HelZ w wx gs p c xb y xp1 xc1 xp2 xc2 yb z zp1 zc1 zp2 zc2 eb g0 k0) (fun s11 _ => gs.length - (intOf s11).toNat)
        case atStart => exact ⟨0, rfl, by omega, HZB.out⟩
        case round =>
          obtain ⟨g, rfl, hgl, Z⟩ := hrel
          have a0 := blk_cell Z.H.s 0
          by_cases hgn : g < gs.length
          · have hg3 : g < 3 := by omega
            have e0 := blk_cell Z.ev 0
            have e1 := blk_cell Z.ev 1
            have b0 := blk_cell Z.zr 0
            have b1 := blk_cell Z.xr 0
            obtain ⟨u1, u2, hua, hzi, -⟩ := Z.zs
            obtain ⟨rfl, rfl⟩ : u1 = .slice zp1 gs.length zc1 ∧ u2 = .slice zp2 gs.length zc2 := by simpa using hua.symm
            obtain ⟨zb, zo, zcu, hze, hzb, hzc⟩ := hzi.rung hn3 hn1
            simp only [Value.slice.injEq] at hze
            obtain ⟨rfl, -, rfl⟩ := hze
            obtain ⟨xb2, xo, xcu, hxe2, hxb2, hxc⟩ := Z.xs.rung hn3 hn1
            simp only [Value.slice.injEq] at hxe2
            obtain ⟨rfl, -, rfl⟩ := hxe2
            have r1 := hzc g hgn
            have r2 := hxc g hgn
            have hgI : (g : Int) < (gs.length : Int) := by omega
            have HXC := Lib.hid hxc
            have HZC := Lib.hid hzc
            clear hua hzi hxc hzc
            have hle := hzl.out g hg3
            go_upto_region 14 with fail
            go_cut [101] from 73 to 146 (fun s101 wx => s101 = .bool false ∧ HelZ w wx gs p c xb y (some ⟨xb2, xo, none⟩) xc1 xp2 xc2 yb z (some ⟨zb, zo, none⟩) zc1 zp2 zc2 eb g0 k0)
            case first =>
              by_cases hc : g = g0 ∧ k0 = 0
              · have hd1 : ((g : Int) != (g0 : Int)) = false := by simp; omega
                have hd2 : (k0 != 0) = false := by simp; omega
                clear hc hle
                go_quiet (fail)
                have Zq := Z.below (below_drewN (Below.refl wr.heap.size wr) nq)
                go_wp2
                go_meet
                exact ⟨rfl, Zq⟩
              · have hle2 := hle hc
                have hd3 : decide (y.a g < z.a g) = false := by simp; omega
                clear hle hle2
                by_cases hgg0 : g = g0
                · have hd1 : ((g : Int) != (g0 : Int)) = false := by simp; omega
                  have hd2 : (k0 != 0) = true := by simp; omega
                  clear hc hgg0
                  go_quiet (fail)
                  have Zq := Z.below (below_drewN (Below.refl wr.heap.size wr) nq)
                  go_wp2
                  go_meet
                  exact ⟨rfl, Zq⟩
                · have hd1 : ((g : Int) != (g0 : Int)) = true := by simp; omega
                  clear hc hgg0
                  go_quiet (fail)
                  have Zq := Z.below (below_drewN (Below.refl wr.heap.size wr) nq)
                  go_wp2
                  go_meet
                  exact ⟨rfl, Zq⟩
            case rest =>
              clear Z hle
              obtain ⟨rfl, Zq⟩ := hcut
              have hzb2 : zb < wc.heap.size := (Zq.rungs2 hn3 hn1).1
              clear a0 e0 e1 b0 b1 r1 r2 hzb hxb2
              go_wp2_with fail
              obtain ⟨bg, og, qr, cq, rfl, hbg, hcg, hRP⟩ := (HP.out.below Zq.H.bl).rungs hgn
              have hza := HK.out.at_.a g hgn
              have hMr : (machOf gs).rungs g = (rungsAt gs g).length := rfl
              obtain ⟨k, hk⟩ : ∃ k : Nat, z.a g = (k : Int) := ⟨(z.a g).toNat, by omega⟩
              have hkr : k < (rungsAt gs g).length := by omega
              obtain ⟨br, orr, rfl, hbr, hcr⟩ := hRP.at_ (by omega)
              obtain ⟨qn, cn, ql, cl, hR⟩ := hcr k hkr
              have Zd := Zq.below (show Below wc.heap.size wc wc.drew from below_drewN (Below.refl wc.heap.size wc) 1)
              have hPick : PickP w.heap.size yb zb zo g bg og br orr k gs.length c (rungsAt gs g).length cq zc1 (rungsAt gs g)[k] qn cn ql cl wc :=
                ⟨blk_cell Zq.H.s 0, hcg, blk_cell Zq.zr 0, by rw [← hk]; exact (Zq.rungs2 hn3 hn1).2 g hgn, hR, row_lt Zq.H.s, hbg, row_lt Zq.zr, hzb2, hbr⟩
              have hSt : PickP w.heap.size yb zb zo g bg og br orr k gs.length c (rungsAt gs g).length cq zc1 (rungsAt gs g)[k] qn cn ql cl wc.drew := hPick.below (below_drewN (Below.refl wc.heap.size wc) 1)
              have hkI : (k : Int) < ((rungsAt gs g).length : Int) := by omega
              obtain ⟨rg, HRG⟩ : ∃ rg, Hid (rg = (rungsAt gs g)[k]) := ⟨(rungsAt gs g)[k], by unfold Hid; rfl⟩
              rw [← HRG.out] at hSt
              have HKK := Lib.hid (show (z.a g).toNat = k by rw [hk, Int.toNat_natCast])
              have HHK := Lib.hid (show rgAt gs g (z.a g).toNat = rg by rw [hk, Int.toNat_natCast, rgAt_get hkr]; exact HRG.out.symm)
              clear hPick hR hcr hRP hcg hza hMr Zq hk
              refine wp_region_late (PickP w.heap.size yb zb zo g bg og br orr k gs.length c (rungsAt gs g).length cq zc1 rg qn cn ql cl) (fun i => Nat.beq i 14) (by kernel_rfl) ?_
              generalize wc.drew = wz at Zd hSt ⊢
              refine wpL_free (i := 0) (v := ?vv15) rfl (by kernel_rfl) (fun _ _ _ h => h) rfl ?hy15 ?rest15
              case hy15 => (intro wy; go_simp; try with_reducible rfl)
              try simp only [Act.put, List.getElem_toArray, List.getElem_cons_succ, List.getElem_cons_zero, List.setIfInBounds_toArray, List.set_cons_zero, List.set_cons_succ]
              refine wpL_take (i := 1) (v := ?vvA) rfl (by kernel_rfl) (fun _ _ _ h => h) rfl hSt ?hyA ?restA
              case hyA =>
                intro wy hy
                have q := PickP.s hy
                clear hy
                go_simp
                try with_reducible rfl
              try simp only [Act.put, List.getElem_toArray, List.getElem_cons_succ, List.getElem_cons_zero, List.setIfInBounds_toArray, List.set_cons_zero, List.set_cons_succ]
              refine wpL_free (i := 2) (v := ?vv16) rfl (by kernel_rfl) (fun _ _ _ h => h) rfl ?hy16 ?rest16
              case hy16 => (intro wy; go_simp; try with_reducible rfl)
              try simp only [Act.put, List.getElem_toArray, List.getElem_cons_succ, List.getElem_cons_zero, List.setIfInBounds_toArray, List.set_cons_zero, List.set_cons_succ]
              refine wpL_free (i := 3) (v := ?vv17) rfl (by kernel_rfl) (fun _ _ _ h => h) rfl ?hy17 ?rest17
              case hy17 => (intro wy; go_simp; try with_reducible rfl)
              try simp only [Act.put, List.getElem_toArray, List.getElem_cons_succ, List.getElem_cons_zero, List.setIfInBounds_toArray, List.set_cons_zero, List.set_cons_succ]
              refine wpL_free (i := 4) (v := ?vv18) rfl (by kernel_rfl) (fun _ _ _ h => h) rfl ?hy18 ?rest18
              case hy18 => (intro wy; go_simp; try with_reducible rfl)
              try simp only [Act.put, List.getElem_toArray, List.getElem_cons_succ, List.getElem_cons_zero, List.setIfInBounds_toArray, List.set_cons_zero, List.set_cons_succ]
              refine wpL_take (i := 5) (v := ?vvB) rfl (by kernel_rfl) (fun _ _ _ h => h) rfl hSt ?hyB ?restB
              case hyB =>
                intro wy hy
                have q := PickP.g1 hy
                clear hy
                go_simp
                try with_reducible rfl
              try simp only [Act.put, List.getElem_toArray, List.getElem_cons_succ, List.getElem_cons_zero, List.setIfInBounds_toArray, List.set_cons_zero, List.set_cons_succ]
              refine wpL_free (i := 6) (v := ?vv19) rfl (by kernel_rfl) (fun _ _ _ h => h) rfl ?hy19 ?rest19
              case hy19 => (intro wy; go_simp; try with_reducible rfl)
              try simp only [Act.put, List.getElem_toArray, List.getElem_cons_succ, List.getElem_cons_zero, List.setIfInBounds_toArray, List.set_cons_zero, List.set_cons_succ]
              refine wpL_take (i := 7) (v := ?vvC) rfl (by kernel_rfl) (fun _ _ _ h => h) rfl hSt ?hyC ?restC
              case hyC =>
                intro wy hy
                have q := PickP.y0 hy
                clear hy
                go_simp
                try with_reducible rfl
              try simp only [Act.put, List.getElem_toArray, List.getElem_cons_succ, List.getElem_cons_zero, List.setIfInBounds_toArray, List.set_cons_zero, List.set_cons_succ]
              refine wpL_free (i := 8) (v := ?vv20) rfl (by kernel_rfl) (fun _ _ _ h => h) rfl ?hy20 ?rest20
              case hy20 => (intro wy; go_simp; try with_reducible rfl)
              try simp only [Act.put, List.getElem_toArray, List.getElem_cons_succ, List.getElem_cons_zero, List.setIfInBounds_toArray, List.set_cons_zero, List.set_cons_succ]
              refine wpL_free (i := 9) (v := ?vv21) rfl (by kernel_rfl) (fun _ _ _ h => h) rfl ?hy21 ?rest21
              case hy21 => (intro wy; go_simp; try with_reducible rfl)
              try simp only [Act.put, List.getElem_toArray, List.getElem_cons_succ, List.getElem_cons_zero, List.setIfInBounds_toArray, List.set_cons_zero, List.set_cons_succ]
              refine wpL_take (i := 10) (v := ?vvD) rfl (by kernel_rfl) (fun _ _ _ h => h) rfl hSt ?hyD ?restD
              case hyD =>
                intro wy hy
                have q := PickP.za hy
                clear hy
                go_simp
                try with_reducible rfl
              try simp only [Act.put, List.getElem_toArray, List.getElem_cons_succ, List.getElem_cons_zero, List.setIfInBounds_toArray, List.set_cons_zero, List.set_cons_succ]
              refine wpL_free (i := 11) (v := ?vv22) rfl (by kernel_rfl) (fun _ _ _ h => h) rfl ?hy22 ?rest22
              case hy22 => (intro wy; go_simp; try with_reducible rfl)
              try simp only [Act.put, List.getElem_toArray, List.getElem_cons_succ, List.getElem_cons_zero, List.setIfInBounds_toArray, List.set_cons_zero, List.set_cons_succ]
              refine wpL_take (i := 12) (v := ?vvE) rfl (by kernel_rfl) (fun _ _ _ h => h) rfl hSt ?hyE ?restE
              case hyE =>
                intro wy hy
                have q0 := (PickP.R hy).d0
                have q1 := (PickP.R hy).d1
                have q2 := (PickP.R hy).d2
                have q3 := (PickP.R hy).d3
                have q4 := (PickP.R hy).d4
                have q5 := (PickP.R hy).d5
                have q6 := (PickP.R hy).d6
                clear hy
                go_simp
                try with_reducible rfl
              try simp only [Act.put, List.getElem_toArray, List.getElem_cons_succ, List.getElem_cons_zero, List.setIfInBounds_toArray, List.set_cons_zero, List.set_cons_succ]
              refine wpL_one (i := 13) rfl (by kernel_rfl) rfl (fun K hK => ?_)
              go_simp
              change K _ (wz.alloc (.cells #[.string ⟨#[]⟩, .string ⟨#[]⟩, .string ⟨#[]⟩, .int .i64 0, .int .i64 0, .slice none 0 0, .slice none 0 0] 59))
              have n1 := heap_alloc_new wz (.cells #[.string ⟨#[]⟩, .string ⟨#[]⟩, .string ⟨#[]⟩, .int .i64 0, .int .i64 0, .slice none 0 0, .slice none 0 0] 59)
              have hb1 : Below wz.heap.size wz (wz.alloc (.cells #[.string ⟨#[]⟩, .string ⟨#[]⟩, .string ⟨#[]⟩, .int .i64 0, .int .i64 0, .slice none 0 0, .slice none 0 0] 59)) := (Below.refl _ _).alloc (Nat.le_refl _) _
              refine hK _ _ (fun _ h => h.below hb1) ?_
              clear hK K
              try simp only [Act.put, List.getElem_toArray, List.getElem_cons_succ, List.getElem_cons_zero, List.setIfInBounds_toArray, List.set_cons_zero, List.set_cons_succ]
              generalize wz.alloc (.cells #[.string ⟨#[]⟩, .string ⟨#[]⟩, .string ⟨#[]⟩, .int .i64 0, .int .i64 0, .slice none 0 0, .slice none 0 0] 59) = wA at n1 hb1 ⊢
              have q0 := blk_cell n1 0
              have q1 := blk_cell n1 1
              have q2 := blk_cell n1 2
              have q3 := blk_cell n1 3
              have q4 := blk_cell n1 4
              have q5 := blk_cell n1 5
              have q6 := blk_cell n1 6
              have f0 := frozen_of_row wA wz.heap.size 0 _ _ n1
              have f1 := frozen_of_row wA wz.heap.size 1 _ _ n1
              have f2 := frozen_of_row wA wz.heap.size 2 _ _ n1
              have f3 := frozen_of_row wA wz.heap.size 3 _ _ n1
              have f4 := frozen_of_row wA wz.heap.size 4 _ _ n1
              have f5 := frozen_of_row wA wz.heap.size 5 _ _ n1
              have f6 := frozen_of_row wA wz.heap.size 6 _ _ n1
              refine wpL_one (i := 14) rfl (by kernel_rfl) rfl (fun K hK => ?_)
              go_simp
              change K _ (putRg wA wz.heap.size rg qn cn ql cl)
              refine hK _ _ (fun h => by cases h) ?_
              clear hK K q0 q1 q2 q3 q4 q5 q6 f0 f1 f2 f3 f4 f5 f6
              try simp only [Act.put, List.getElem_toArray, List.getElem_cons_succ, List.getElem_cons_zero, List.setIfInBounds_toArray, List.set_cons_zero, List.set_cons_succ]
              refine wpL_done (by kernel_rfl) ?_ _
              have hbR : Below wz.heap.size wz (putRg wA wz.heap.size rg qn cn ql cl) := hb1.trans (putRg_below (Nat.le_refl _))
              have nR := putRg_row (r := rg) (qn := qn) (cn := cn) (ql := ql) (cl := cl) n1
              have ZR := Zd.below hbR
              have HNP : Hid (NeedsP (putRg wA wz.heap.size rg qn cn ql cl) qn rg.needs) := hSt.R.n.below hbR
              have hzB := Nat.lt_of_lt_of_le hSt.lz hbR.size
              have hyR := Nat.lt_of_lt_of_le hSt.ly hbR.size
              clear Zd hSt n1 hb1 hbR
              generalize putRg wA wz.heap.size rg qn cn ql cl = wR at nR ZR HNP hzB hyR ⊢
              generalize wz.heap.size = rb at nR ⊢
              obtain ⟨nn, HNN⟩ : ∃ nn, Hid (nn = rg.needs.length) := ⟨rg.needs.length, by unfold Hid; rfl⟩
              rw [← HNN.out] at nR
              have hnn3 : nn ≤ 3 := by
                have h := (need_fit hS hgn hkr).1
                rw [HNN.out, ← HHK.out]
                have hk2 : (z.a g).toNat = k := HKK.out
                rw [hk2]
                exact h
              have HZR := Lib.hid ZR
              have HnR := Lib.hid nR
              have HGR := Lib.hid (HP.out.below ZR.H.bl)
              clear ZR nR
              go_wp2_with fail
              go_loopw [13] (fun s13 wy => ∃ j : Nat, s13 = .int .i64 j ∧ j ≤ nn ∧ Below wR.heap.size wR wy) (fun s13 _ => nn - (intOf s13).toNat)
              case atStart => exact ⟨0, rfl, by omega, Below.refl _ _⟩
              case round =>
                obtain ⟨j, rfl, hjn, hbj⟩ := hrel
                have Zj := HZR.out.below hbj
                have nj := (hbj.block _ (row_lt HnR.out)).trans HnR.out
                have x5 := blk_cell nj 5
                by_cases hjl : j < nn
                · have hjl2 : j < (rgAt gs g (z.a g).toNat).needs.length := by rw [HHK.out, ← HNN.out]; exact hjl
                  obtain ⟨nb, no, rfl, hnb, hnc⟩ := (HNP.out.below hbj).at_ (by rw [← HNN.out]; omega)
                  obtain ⟨wq, wc2, n0, n1, hWP⟩ := hnc j (by rw [← HNN.out]; exact hjl)
                  obtain ⟨q, hq1, hq2, hq3, hq4, hq5⟩ := held_word hS HK.out.at_ hgn (HK.out.held g hgn) hjl2
                  simp only [HHK.out] at hq1 hq4 hq5
                  rw [hq1] at n0
                  obtain ⟨ws, HWS⟩ : ∃ ws, Hid (ws = (rg.needs[j]'(by rw [← HNN.out]; exact hjl)).rungs) := ⟨_, by unfold Hid; rfl⟩
                  rw [← HWS.out] at hq4 hq5 n1 hWP
                  obtain ⟨nm, HNM⟩ : ∃ nm, Hid (nm = (rgAt gs q (z.a q).toNat).name) := ⟨_, by unfold Hid; rfl⟩
                  rw [← HNM.out] at hq4
                  have hjI : (j : Int) < (nn : Int) := by omega
                  have a0 := blk_cell Zj.H.s 0
                  go_upto_region 20 with fail
                  refine wp_region_lit ?_
                  refine wpList_plain rfl (fun K hK => ?_)
                  go_simp
                  refine hK _ _ ?_
                  clear hK K
                  try simp only [Act.put, List.getElem_toArray, List.getElem_cons_succ, List.getElem_cons_zero, List.setIfInBounds_toArray, List.set_cons_zero, List.set_cons_succ]
                  refine wpList_plain rfl (fun K hK => ?_)
                  go_simp
                  refine hK _ _ ?_
                  clear hK K
                  try simp only [Act.put, List.getElem_toArray, List.getElem_cons_succ, List.getElem_cons_zero, List.setIfInBounds_toArray, List.set_cons_zero, List.set_cons_succ]
                  refine wpList_plain rfl (fun K hK => ?_)
                  go_simp
                  refine hK _ _ ?_
                  clear hK K
                  try simp only [Act.put, List.getElem_toArray, List.getElem_cons_succ, List.getElem_cons_zero, List.setIfInBounds_toArray, List.set_cons_zero, List.set_cons_succ]
                  refine wpList_plain rfl (fun K hK => ?_)
                  go_simp
                  refine hK _ _ ?_
                  clear hK K
                  try simp only [Act.put, List.getElem_toArray, List.getElem_cons_succ, List.getElem_cons_zero, List.setIfInBounds_toArray, List.set_cons_zero, List.set_cons_succ]
                  refine wpList_plain rfl (fun K hK => ?_)
                  go_simp
                  refine hK _ _ ?_
                  clear hK K
                  try simp only [Act.put, List.getElem_toArray, List.getElem_cons_succ, List.getElem_cons_zero, List.setIfInBounds_toArray, List.set_cons_zero, List.set_cons_succ]
                  have v1 := heap_alloc_new wr (.cells #[.int .i64 0, .slice none 0 0] 65)
                  have hbv : Below wr.heap.size wr (wr.alloc (.cells #[.int .i64 0, .slice none 0 0] 65)) := (Below.refl _ _).alloc (Nat.le_refl _) _
                  refine wpList_plain rfl (fun K hK => ?_)
                  go_simp
                  refine hK _ _ ?_
                  clear hK K
                  try simp only [Act.put, List.getElem_toArray, List.getElem_cons_succ, List.getElem_cons_zero, List.setIfInBounds_toArray, List.set_cons_zero, List.set_cons_succ]
                  generalize wr.alloc (.cells #[.int .i64 0, .slice none 0 0] 65) = wv at v1 hbv ⊢
                  have q0 := blk_cell v1 0
                  have q1 := blk_cell v1 1
                  have f0 := frozen_of_row wv wr.heap.size 0 _ _ v1
                  have f1 := frozen_of_row wv wr.heap.size 1 _ _ v1
                  refine wpList_plain rfl (fun K hK => ?_)
                  go_simp
                  refine hK _ _ ?_
                  clear hK K
                  try simp only [Act.put, List.getElem_toArray, List.getElem_cons_succ, List.getElem_cons_zero, List.setIfInBounds_toArray, List.set_cons_zero, List.set_cons_succ]
                  clear q0 q1 f0 f1
                  change wpList _ _ _ _ _ (putSt2 wv wr.heap.size (.int .i64 q) (.slice wq ws.length wc2))
                  have v2 := putSt2_row (u1 := .int .i64 q) (u2 := .slice wq ws.length wc2) v1
                  have hbV : Below wr.heap.size wr (putSt2 wv wr.heap.size (.int .i64 q) (.slice wq ws.length wc2)) := hbv.trans (putSt2_below (Nat.le_refl _))
                  have ZV := Zj.below hbV
                  have WPV := hWP.below hbV
                  have hbJ := hbj.trans (hbV.mono hbj.size)
                  clear Zj nj x5 n0 n1 hnc hWP v1 hbv hbV a0
                  generalize putSt2 wv wr.heap.size (.int .i64 q) (.slice wq ws.length wc2) = wV at v2 ZV WPV hbJ ⊢
                  generalize wr.heap.size = vb at v2 ⊢
                  obtain ⟨bg', og', qr', cq', hpe, hbg', hcg', hRP'⟩ := (HP.out.below ZV.H.bl).rungs hq2
                  simp only [Option.some.injEq, Addr.mk.injEq] at hpe
                  obtain ⟨rfl, rfl, -⟩ := hpe
                  obtain ⟨bq, oq, rfl, hbq, hcq⟩ := hRP'.at_ (by omega)
                  obtain ⟨m, hm⟩ : ∃ m : Nat, z.a q = (m : Int) := ⟨(z.a q).toNat, by have := (HK.out.at_.a q hq2).1; omega⟩
                  have hmr : m < (rungsAt gs q).length := by rw [hm, Int.toNat_natCast] at hq3; exact hq3
                  obtain ⟨qn', cn', ql', cl', hR'⟩ := hcq m hmr
                  have d0 := hR'.d0
                  rw [← rgAt_get hmr, show rgAt gs q m = rgAt gs q (z.a q).toNat by rw [hm, Int.toNat_natCast], ← HNM.out] at d0
                  have za := (ZV.rungs2 hn3 hn1).2 q hq2
                  rw [hm] at za
                  have a0 := blk_cell ZV.H.s 0
                  have y0 := blk_cell ZV.zr 0
                  have n0 := blk_cell v2 0
                  have n1 := blk_cell v2 1
                  have hfi : decide (findI ws nm < 0) = false := by
                    have := findF_mem ws nm 0 hq4
                    exact decide_eq_false (by unfold findI; omega)
                  have hqI : (q : Int) < (gs.length : Int) := by omega
                  have hmI : (m : Int) < ((rungsAt gs q).length : Int) := by omega
                  have HFW : Hid (∀ n, Calls Tryz.prog 30 #[.slice wq ws.length wc2, .string nm] (wV.drewN n) fun e w' => e = .returned (.int .i64 (findI ws nm)) ∧ w' = wV.drewN n) := fun n => findWordN wq wc2 ws nm _ (WPV.below (below_drewN (Below.refl wV.heap.size wV) n)) (by omega)
                  clear hR' hcq hRP' ZV WPV v2
                  go_wp2_with fail
                  go_quiet ((go_at_call 30; with_reducible exact quiet_one (HFW.out _)))
                  go_wp2_with fail
                  go_roundw
                  case rel => exact ⟨j + 1, by go_num, by omega, hbJ.trans ((below_drewN (Below.refl wV.heap.size wV) nq).mono hbJ.size)⟩
                  case measure => simp [intOf]; omega
                · obtain rfl : j = nn := by omega
                  clear hjl
                  go_wp2_with fail
                  go_roundw
                  case rel => exact ⟨g + 1, by go_num, by omega, Zj⟩
                  case measure => simp [intOf]; omega
          · obtain rfl : g = gs.length := by omega
            have b0 := blk_cell Z.zr 0
            have b1 := blk_cell Z.zr 1
            have x0 := blk_cell Z.xr 0
            have x1 := blk_cell Z.xr 1
            have f0 := frozen_of_row wr xb 0 _ _ Z.xr
            have f1 := frozen_of_row wr xb 1 _ _ Z.xr
            clear hgn
            go_wp2_with fail
            go_roundw
            case rel => exact ⟨i + 1, z, by go_num, by omega, by omega, Z.H.put Z.zs HK.out⟩
            case measure => simp [intOf]; omega
      · have HR := Lib.hid H
        clear H
        by_cases hl1 : i < l.length
        · have hd1 : decide ((i : Int) < ((l.length : Nat) : Int)) = true := by simp; omega
          have hd2 : decide ((i : Int) < 200) = false := by simp; omega
          clear hil
          go_wp2_with fail
          refine (worksN _ (HP.out.X.below HR.out.bl)).mono ?_
          rintro e wk ⟨rfl, hbk⟩
          go_wp2_with fail
          go_ret
          exact ⟨rfl, HR.out.bl.trans (hbk.mono HR.out.bl.size)⟩
        · have hd1 : decide ((i : Int) < ((l.length : Nat) : Int)) = false := by simp; omega
          clear hil
          go_wp2_with fail
          refine (worksN _ (HP.out.X.below HR.out.bl)).mono ?_
          rintro e wk ⟨rfl, hbk⟩
          go_wp2_with fail
          go_ret
          exact ⟨rfl, HR.out.bl.trans (hbk.mono HR.out.bl.size)⟩
end Go.Proofs.YtnkgbocdpngldaaGreatDoor

/-
  Valid systems, and the machine of a system.
  Check of package lock.
-/
import Derived.Test.YtnkgbocdpngldaaGreatDoorZLock4
import Derived.Test.YtnkgbocdpngldaaGreatDoorZMach
set_option linter.unusedVariables false
set_option linter.unusedSimpArgs false
namespace Go.Proofs.YtnkgbocdpngldaaGreatDoor

def guardAt (gs : List Gd) (i : Nat) : Gd := match gs[i]? with | some g => g | none => ⟨ByteArray.empty, []⟩
/-- has a guard ahead the same name? -/
def twiceS (gs : List Gd) (i : Nat) : Bool := (gs.take i).any (fun x => decide (x.name.data.toList = (guardAt gs i).name.data.toList))
def oksS (gs : List Gd) (i : Nat) : Bool := (List.range (rungsAt gs i).length).all (rungOKS gs i)
def endsAllS (gs : List Gd) (i : Nat) : Bool := (List.range (rungsAt gs i).length).all (endsS (rungsAt gs i) (rungsAt gs i).length)
def guardS (gs : List Gd) (i : Nat) : Bool :=
  nameS (guardAt gs i).name.data.toList && !twiceS gs i && (decide (1 ≤ (rungsAt gs i).length) && decide ((rungsAt gs i).length ≤ 8)) && oksS gs i && endsAllS gs i
def sysS (gs : List Gd) : Bool := (decide (1 ≤ gs.length) && decide (gs.length ≤ 3)) && (List.range gs.length).all (guardS gs)

def rgAt (gs : List Gd) (g k : Nat) : Rg := match (rungsAt gs g)[k]? with | some r => r | none => ⟨ByteArray.empty, ByteArray.empty, ByteArray.empty, 0, 0, [], []⟩
def needI (gs : List Gd) (n : Nd) : Nat × List Int := (n.guard.toNat, n.rungs.map (fun s => rungI (rungsAt gs n.guard.toNat) s.data.toList))
def machOf (gs : List Gd) : Mach where
  n := gs.length
  rungs g := (rungsAt gs g).length
  next g k := rungI (rungsAt gs g) (rgAt gs g k).next.data.toList
  back g k := rungI (rungsAt gs g) (rgAt gs g k).back.data.toList
  needs g k := (rgAt gs g k).needs.map (needI gs)
  tries g k := (rgAt gs g k).tries
  mins g k := (rgAt gs g k).minutes

theorem sys_len {gs : List Gd} (h : sysS gs = true) : 1 ≤ gs.length ∧ gs.length ≤ 3 := by
  unfold sysS at h
  simp only [Bool.and_eq_true, decide_eq_true_eq] at h
  exact h.1
theorem sys_guard {gs : List Gd} (h : sysS gs = true) {i : Nat} (hi : i < gs.length) : guardS gs i = true := by
  unfold sysS at h
  simp only [Bool.and_eq_true] at h
  exact List.all_eq_true.1 h.2 i (List.mem_range.2 hi)
theorem guard_len {gs : List Gd} {i : Nat} (h : guardS gs i = true) : 1 ≤ (rungsAt gs i).length ∧ (rungsAt gs i).length ≤ 8 := by
  unfold guardS at h
  simp only [Bool.and_eq_true, decide_eq_true_eq] at h
  exact h.1.1.2
theorem guard_rung {gs : List Gd} {i k : Nat} (h : guardS gs i = true) (hk : k < (rungsAt gs i).length) : rungS gs i k (rungsAt gs i) (rgAt gs i k) = true := by
  unfold guardS at h
  simp only [Bool.and_eq_true] at h
  have := List.all_eq_true.1 h.1.2 k (List.mem_range.2 hk)
  unfold rungOKS at this
  unfold rgAt
  rw [List.getElem?_eq_getElem hk] at this ⊢
  exact this

theorem sys_good {gs : List Gd} (h : sysS gs = true) : (machOf gs).Good := by
  obtain ⟨h1, h3⟩ := sys_len h
  have HR : ∀ g k, g < gs.length → k < (rungsAt gs g).length → selfS (rungsAt gs g) k (rgAt gs g k) = true ∧ waysS (rungsAt gs g) k (rgAt gs g k) = true ∧ needsS gs g (rgAt gs g k).needs = true := by
    intro g k hg hk
    have := guard_rung (sys_guard h hg) hk
    unfold rungS at this
    simp only [Bool.and_eq_true] at this
    exact ⟨this.1.1.1, this.1.1.2, this.1.2⟩
  have HW : ∀ g k, g < gs.length → k < (rungsAt gs g).length → 0 ≤ (machOf gs).back g k ∧ (0 < k → (machOf gs).back g k < k) ∧ (k = 0 → (machOf gs).back g 0 = 0 ∧ (machOf gs).needs g 0 = []) := by
    intro g k hg hk
    have hw := (HR g k hg hk).2.1
    unfold waysS at hw
    show 0 ≤ rungI (rungsAt gs g) (rgAt gs g k).back.data.toList ∧ (0 < k → rungI (rungsAt gs g) (rgAt gs g k).back.data.toList < k) ∧ (k = 0 → rungI (rungsAt gs g) (rgAt gs g 0).back.data.toList = 0 ∧ (rgAt gs g 0).needs.map (needI gs) = [])
    generalize hz : rungI (rungsAt gs g) (rgAt gs g k).back.data.toList = z at hw ⊢
    simp only [Bool.not_eq_true', Bool.or_eq_false_iff, Bool.and_eq_false_iff, decide_eq_false_iff_not, Bool.not_eq_false', decide_eq_true_eq] at hw
    obtain ⟨⟨⟨_, hb⟩, hc⟩, hd⟩ := hw
    refine ⟨by omega, fun hk0 => by omega, fun hk0 => ?_⟩
    subst hk0
    rw [hz]
    have hd2 : z = 0 ∧ (rgAt gs g 0).needs.length = 0 := by omega
    exact ⟨hd2.1, by rw [List.length_eq_zero_iff.1 hd2.2]; rfl⟩
  refine ⟨h1, h3, fun g hg => (guard_len (sys_guard h hg)).1, fun g hg => (guard_len (sys_guard h hg)).2, fun g k hg hk => rungI_range _ _, fun g k hg hk => (HW g k hg hk).1, fun g k hg hk hk0 => (HW g k hg hk).2.1 hk0,
    fun g hg => ((HW g 0 hg (guard_len (sys_guard h hg)).1).2.2 rfl).1, fun g hg => ((HW g 0 hg (guard_len (sys_guard h hg)).1).2.2 rfl).2, fun g k hg hk x hx => ?_, fun g k hg hk => ?_, fun g k hg hk => ?_⟩
  · obtain ⟨n, hn, rfl⟩ := List.mem_map.1 hx
    have hN := (HR g k hg hk).2.2
    obtain ⟨j, hj, e⟩ := List.mem_iff_getElem.1 hn
    have := List.all_eq_true.1 hN j (List.mem_range.2 hj)
    unfold needAt at this
    rw [List.getElem?_eq_getElem hj, e] at this
    simp only [Bool.and_eq_true] at this
    have h4 := this.1
    unfold needS at h4
    simp only [Bool.and_eq_true, decide_eq_true_eq] at h4
    show n.guard.toNat < g
    omega
  · have hS := (HR g k hg hk).1
    unfold selfS at hS
    simp only [Bool.and_eq_true, decide_eq_true_eq] at hS
    exact hS.1.2
  · have hS := (HR g k hg hk).1
    unfold selfS at hS
    simp only [Bool.and_eq_true, decide_eq_true_eq] at hS
    exact hS.2
end Go.Proofs.YtnkgbocdpngldaaGreatDoor

namespace Go.Proofs.YtnkgbocdpngldaaGreatDoor
open Go.RowKit Dc Dg

set_option maxRecDepth 100000 in
set_option maxHeartbeats 1000000 in
theorem guardIs (g : ByteArray) (q : Option Addr) (n cq : Nat) (s : ByteArray) (k : Nat) (w : World) (hk : k < w.heap.size) (hc : w.cell? ⟨k, 0, none⟩ = some (.string s)) :
    Calls Tryz.prog 69 #[.agg #[.string g, .slice q n cq], .pointer (some ⟨k, 0, none⟩)] w fun e w' => ∃ b : Bool, e = .returned (.bool b) ∧ Hid (decide (g.data.toList = s.data.toList) = b) ∧ Below w.heap.size w w' := by
  go_enter Tryz.func69, Tryz.ntmps69
  go_wp2
  go_ret
  refine ⟨_, rfl, ?_, (Below.refl _ _).alloc (Nat.le_refl _) _⟩
  unfold Hid
  rw [← bytes_toList, ← bytes_toList, Bool.eq_iff_iff]
  simp

def anyGd (l : List Gd) (s : List UInt8) : Bool := l.any (fun x => decide (x.name.data.toList = s))
theorem anyGd_hit {gs : List Gd} {n i : Nat} {s : List UInt8} (hi : i < gs.length) (hn : i < n) (h : gs[i].name.data.toList = s) : anyGd (gs.take n) s = true := by
  unfold anyGd
  rw [List.any_eq_true]
  refine ⟨gs[i], ?_, by simp [h]⟩
  rw [List.mem_iff_getElem]
  exact ⟨i, by simp; omega, by simp⟩
theorem anyGd_step {gs : List Gd} {i : Nat} {s : List UInt8} (hi : i < gs.length) (h : anyGd (gs.take i) s = false) (h2 : ¬ gs[i].name.data.toList = s) : anyGd (gs.take (i + 1)) s = false := by
  unfold anyGd at h ⊢
  rw [List.take_add_one, List.getElem?_eq_getElem hi, List.any_append, h]
  simp [h2]

set_option maxRecDepth 100000 in
set_option maxHeartbeats 1000000 in
theorem indexGuard (p : Option Addr) (c : Nat) (gs : List Gd) (n : Nat) (s : ByteArray) (k : Nat) (w : World) (hl : GuardsP w p gs) (hn : gs.length ≤ 1000) (hng : n ≤ gs.length) (hk : k < w.heap.size) (hc : w.cell? ⟨k, 0, none⟩ = some (.string s)) :
    Calls Tryz.prog 90 #[.slice p n c, .func (.func 69) #[] #[.pointer (some ⟨k, 0, none⟩)]] w fun e w' => ∃ z : Int, e = .returned (.int .i64 z) ∧ Hid (anyGd (gs.take n) s.data.toList = decide (0 ≤ z)) ∧ Below w.heap.size w w' := by
  go_enter Tryz.func90, Tryz.ntmps90
  go_wp2_with fail
  go_loopw [8] (fun s8 wr => ∃ i : Nat, s8 = .int .i64 i ∧ i ≤ n ∧ GuardsP wr p gs ∧ Below w.heap.size w wr ∧ Hid (anyGd (gs.take i) s.data.toList = false)) (fun s8 _ => n - (intOf s8).toNat)
  case atStart => exact ⟨0, rfl, by omega, hl, Below.refl _ _, rfl⟩
  case round =>
    clear hl
    obtain ⟨i, rfl, hi, hl, hb, hx⟩ := hrel
    by_cases hil : i < n
    · have hig : i < gs.length := by omega
      obtain ⟨b, o, rfl, hbw, hcs⟩ := hl.at_ (by omega)
      obtain ⟨q, cq, e0, e1, hR⟩ := hcs i hig
      obtain ⟨g, hge⟩ : ∃ g, g = gs[i] := ⟨_, rfl⟩
      rw [← hge] at e0 e1
      have HR := Lib.hid hge
      have hk2 := Nat.lt_of_lt_of_le hk hb.size
      have hc2 := (hb.cell (p := ⟨k, 0, none⟩) hk).trans hc
      clear hge hcs hR
      go_wp2_with fail
      refine (guardIs g.name q g.rungs.length cq s k wr hk2 hc2).mono ?_
      rintro e w2 ⟨bb, rfl, hbb, hb2⟩
      have hb3 := hb.trans (hb2.mono hb.size)
      have hl2 := hl.below hb2
      clear hl hb2 e0 e1 hc2
      cases bb
      · go_wp2
        go_roundw
        case rel => exact ⟨i + 1, by go_num, by omega, hl2, hb3, anyGd_step hig hx.out (by rw [← HR.out]; exact of_decide_eq_false hbb.out)⟩
        case measure => simp [intOf]; omega
      · go_wp2
        go_ret
        exact ⟨_, rfl, by unfold Hid; rw [anyGd_hit hig hil (by rw [← HR.out]; exact of_decide_eq_true hbb.out)]; simp, hb3⟩
    · have hie : i = n := by omega
      subst hie
      clear hil hi
      go_wp2
      go_ret
      exact ⟨-1, rfl, by unfold Hid; rw [hx.out]; rfl, hb⟩

set_option maxRecDepth 100000 in
set_option maxHeartbeats 1000000 in
theorem containsGuard (p : Option Addr) (c : Nat) (gs : List Gd) (n : Nat) (s : ByteArray) (k : Nat) (w : World) (hl : GuardsP w p gs) (hn : gs.length ≤ 1000) (hng : n ≤ gs.length) (hk : k < w.heap.size) (hc : w.cell? ⟨k, 0, none⟩ = some (.string s)) :
    Calls Tryz.prog 68 #[.slice p n c, .func (.func 69) #[] #[.pointer (some ⟨k, 0, none⟩)]] w (BoolPost (anyGd (gs.take n) s.data.toList) w) := by
  go_enter Tryz.func68, Tryz.ntmps68
  go_wp2_with fail
  refine (indexGuard p c gs n s k w hl hn hng hk hc).mono ?_
  rintro e w2 ⟨z, rfl, hz, hb⟩
  go_wp2
  go_ret
  exact ⟨_, rfl, hz, hb⟩

/-- what Check's walk keeps -/
structure CSt (w0 w : World) (k : Nat) (gs : List Gd) (p : Option Addr) (c : Nat) : Prop where
  s0 : w.cell? ⟨k, 0, none⟩ = some (.slice p gs.length c)
  lt : k < w.heap.size
  G : GuardsP w p gs
  gx : Gx w
  bl : Below w0.heap.size w0 w
theorem CSt.below {w0 w w' : World} {k : Nat} {gs : List Gd} {p : Option Addr} {c : Nat} (h : CSt w0 w k gs p c) (hb : Below w.heap.size w w') : CSt w0 w' k gs p c :=
  ⟨(hb.cell (p := ⟨k, 0, none⟩) h.lt).trans h.s0, Nat.lt_of_lt_of_le h.lt hb.size, h.G.below hb, h.gx.below hb, h.bl.trans (hb.mono h.bl.size)⟩
theorem CSt.new (w : World) (gs : List Gd) (p : Option Addr) (c : Nat) (hG : GuardsP w p gs) (hX : Gx w) : CSt w (w.alloc (.cells #[.slice p gs.length c] 24)) w.heap.size gs p c := by
  have hb : Below w.heap.size w (w.alloc (.cells #[.slice p gs.length c] 24)) := (Below.refl _ _).alloc (Nat.le_refl _) _
  exact ⟨alloc_cell w _ _ 0 _ rfl, by simp, hG.below hb, hX.below hb, hb⟩

/-- .. and the guard that is looked at -/
structure DSt (w0 w : World) (k kb : Nat) (gs : List Gd) (p : Option Addr) (c : Nat) (g : Gd) (q : Option Addr) (cq : Nat) : Prop where
  C : CSt w0 w k gs p c
  t0 : w.cell? ⟨kb, 0, none⟩ = some (.string g.name)
  t1 : w.cell? ⟨kb, 1, none⟩ = some (.slice q g.rungs.length cq)
  lt : kb < w.heap.size
  R : RungsP w q g.rungs
theorem DSt.below {w0 w w' : World} {k kb : Nat} {gs : List Gd} {p : Option Addr} {c : Nat} {g : Gd} {q : Option Addr} {cq : Nat} (h : DSt w0 w k kb gs p c g q cq) (hb : Below w.heap.size w w') : DSt w0 w' k kb gs p c g q cq :=
  ⟨h.C.below hb, (hb.cell (p := ⟨kb, 0, none⟩) h.lt).trans h.t0, (hb.cell (p := ⟨kb, 1, none⟩) h.lt).trans h.t1, Nat.lt_of_lt_of_le h.lt hb.size, h.R.below hb⟩

/-- all rungs of a system are of a size that there is -/
structure FitG (gs : List Gd) : Prop where
  names : ∀ g ∈ gs, g.name.size ≤ 9223372036854775806
  rungs : ∀ g ∈ gs, ∀ r ∈ g.rungs, FitR r
  len : ∀ g ∈ gs, g.rungs.length ≤ 1000000000000000

theorem guard_false {gs : List Gd} {i : Nat} (hi : i < gs.length) (h : guardS gs i = false) : sysS gs = false := by
  unfold sysS
  rw [Bool.and_eq_false_iff]
  right
  rw [List.all_eq_false]
  exact ⟨i, List.mem_range.2 hi, by rw [h]; exact Bool.false_ne_true⟩
theorem sys_true {gs : List Gd} (h1 : 1 ≤ gs.length) (h3 : gs.length ≤ 3) (h : (List.range gs.length).all (guardS gs) = true) : sysS gs = true := by
  unfold sysS
  rw [h, decide_eq_true h1, decide_eq_true h3]; rfl
theorem sys_long {gs : List Gd} (h : ¬ (1 ≤ gs.length ∧ gs.length ≤ 3)) : sysS gs = false := by
  unfold sysS
  rw [Bool.and_eq_false_iff, Bool.and_eq_false_iff]
  left
  simp only [decide_eq_false_iff_not]
  omega
theorem all_false_at {f : Nat → Bool} {n j : Nat} (hj : j < n) (h : f j = false) : (List.range n).all f = false := by
  rw [List.all_eq_false]
  exact ⟨j, List.mem_range.2 hj, by rw [h]; exact Bool.false_ne_true⟩
theorem oks_next {gs : List Gd} {i : Nat} (h : oksS gs i = true) : ∀ j (h : j < (rungsAt gs i).length), (rungsAt gs i)[j].next.data.toList = [] ∨ 0 ≤ rungI (rungsAt gs i) (rungsAt gs i)[j].next.data.toList := by
  intro j hj
  have := List.all_eq_true.1 h j (List.mem_range.2 hj)
  unfold rungOKS at this
  rw [List.getElem?_eq_getElem hj] at this
  simp only at this
  unfold rungS at this
  simp only [Bool.and_eq_true] at this
  have hw := this.1.1.2
  unfold waysS at hw
  simp only [Bool.not_eq_true', Bool.or_eq_false_iff, Bool.and_eq_false_iff, decide_eq_false_iff_not, Bool.not_eq_false', decide_eq_true_eq] at hw
  rcases hw.1.1.1 with h | h
  · exact Or.inl h
  · exact Or.inr (Int.not_lt.1 h)

theorem guardS_name {gs : List Gd} {i : Nat} (h : nameS (guardAt gs i).name.data.toList = false) : guardS gs i = false := by unfold guardS; rw [h]; rfl
theorem guardS_twice {gs : List Gd} {i : Nat} (h : twiceS gs i = true) : guardS gs i = false := by unfold guardS; rw [h]; simp
theorem guardS_len {gs : List Gd} {i : Nat} (h : (decide (1 ≤ (rungsAt gs i).length) && decide ((rungsAt gs i).length ≤ 8)) = false) : guardS gs i = false := by unfold guardS; rw [h]; simp
theorem guardS_oks {gs : List Gd} {i : Nat} (h : oksS gs i = false) : guardS gs i = false := by unfold guardS; rw [h]; simp
theorem guardS_ends {gs : List Gd} {i : Nat} (h : endsAllS gs i = false) : guardS gs i = false := by unfold guardS; rw [h]; simp
theorem guardS_true {gs : List Gd} {i : Nat} (h1 : nameS (guardAt gs i).name.data.toList = true) (h2 : twiceS gs i = false) (h3 : (decide (1 ≤ (rungsAt gs i).length) && decide ((rungsAt gs i).length ≤ 8)) = true) (h4 : oksS gs i = true) (h5 : endsAllS gs i = true) : guardS gs i = true := by
  unfold guardS; rw [h1, h2, h3, h4, h5]; rfl

/-- an error number -/
def ErrnoPost (v : Bool) (n : Int) (w : World) (e : Ending) (w' : World) : Prop := e = .returned (.int .i64 (if v then 0 else n)) ∧ Below w.heap.size w w'

set_option maxRecDepth 100000 in
set_option maxHeartbeats 4000000 in
theorem checkSysN (gs : List Gd) (p : Option Addr) (c : Nat) (w : World) (hG : GuardsP w p gs) (hX : Gx w) (hF : FitG gs) (hc1 : gs.length ≤ c) (hc2 : (c : Int) ≤ 9223372036854775807) :
    Calls Tryz.prog 31 #[.agg #[.slice p gs.length c]] w (ErrnoPost (sysS gs) 40 w) := by
  have S0 := CSt.new w gs p c hG hX
  have HF := Lib.hid hF
  clear hG hX hF
  go_enter Tryz.func31, Tryz.ntmps31
  go_wp2_with fail
  generalize w.alloc (.cells #[.slice p gs.length c] 24) = w0 at S0 ⊢
  refine (withinB _ _ _ _).mono ?_
  rintro e w1 ⟨bl, rfl, hbl, rfl⟩
  by_cases hlen : 1 ≤ gs.length ∧ gs.length ≤ 3
  · obtain rfl : bl = true := by rw [← hbl.out]; simp; omega
    clear hbl
    obtain ⟨hl1, hl3⟩ := hlen
    have s0 := S0.s0
    go_wp2_with fail
    go_loopw [16] (fun s16 wx => ∃ i : Nat, s16 = .int .i64 i ∧ i ≤ gs.length ∧ CSt w wx w.heap.size gs p c ∧ Hid ((List.range i).all (guardS gs) = true)) (fun s16 _ => gs.length - (intOf s16).toNat)
    case atStart => exact ⟨0, rfl, by omega, S0, rfl⟩
    case round =>
      clear S0 s0
      obtain ⟨i, rfl, hi, S, hx⟩ := hrel
      by_cases hil : i < gs.length
      · obtain ⟨b, o, rfl, hbw, hcs⟩ := S.G.at_ (by omega)
        obtain ⟨q, cq, e0, e1, hR⟩ := hcs i hil
        obtain ⟨g, hge⟩ : ∃ g, g = gs[i] := ⟨_, rfl⟩
        rw [← hge] at e0 e1 hR
        have hgm : g ∈ gs := by rw [hge]; exact List.getElem_mem hil
        have hra : rungsAt gs i = g.rungs := by unfold rungsAt; rw [List.getElem?_eq_getElem hil, hge]
        have hga : guardAt gs i = g := by unfold guardAt; rw [List.getElem?_eq_getElem hil, hge]
        have HRA := Lib.hid hra
        have HGA := Lib.hid hga
        have HR := Lib.hid hR
        have hnm : g.name.size ≤ 9223372036854775806 := HF.out.names g hgm
        have hrl : ((g.rungs.length : Nat) : Int) ≤ 1000000000000000 := by have := HF.out.len g hgm; omega
        clear hge hcs hra hga hR
        have hbA : Below wr.heap.size wr (wr.alloc (.cells #[.string g.name, .slice q g.rungs.length cq] 62)) := (Below.refl _ _).alloc (Nat.le_refl _) _
        have t0 := alloc_cell wr #[.string g.name, .slice q g.rungs.length cq] 62 0 _ rfl
        have t1 := alloc_cell wr #[.string g.name, .slice q g.rungs.length cq] 62 1 _ rfl
        have S1 := S.below hbA
        have HR1 := Lib.hid (HR.out.below hbA)
        have hta : wr.heap.size < (wr.alloc (.cells #[.string g.name, .slice q g.rungs.length cq] 62)).heap.size := by simp
        have s0 := (hbA.cell (p := ⟨w.heap.size, 0, none⟩) S.lt).trans S.s0
        clear HR hbA
        have hic : (i : Int) ≤ (c : Int) := by omega
        go_wp2_with fail
        generalize wr.alloc (.cells #[.string g.name, .slice q g.rungs.length cq] 62) = wa at S1 HR1 t0 t1 hta s0 ⊢
        generalize wr.heap.size = kb at t0 t1 hta ⊢
        refine (containsGuard (some ⟨b, o, none⟩) c gs i g.name kb wa S1.G (by omega) (by omega) hta t0).mono ?_
        rintro e w2 ⟨tw, rfl, htw, hb2⟩
        have D2 : DSt w w2 w.heap.size kb gs (some ⟨b, o, none⟩) c g q cq := (DSt.mk S1 t0 t1 hta HR1.out).below hb2
        clear S S1 t0 t1 hta HR1 s0 hb2 e0 e1
        have HTW := Lib.hid (show twiceS gs i = tw by unfold twiceS; rw [HGA.out]; exact htw.out)
        clear htw
        have t0 := D2.t0
        go_wp2_with fail
        refine (nameN g.name w2 hnm).mono ?_
        rintro e w3 ⟨bn, rfl, hbn, rfl⟩
        cases bn
        · have HBN := Lib.hid hbn.out
          clear hbn
          go_wp2
          go_ret
          exact ⟨by rw [guard_false hil (guardS_name (by rw [HGA.out]; exact HBN.out))]; rfl, D2.C.bl⟩
        · have HBN := Lib.hid hbn.out
          clear hbn t0
          cases tw
          · have t1 := D2.t1
            go_wp2_with fail
            refine (withinB _ _ _ _).mono ?_
            rintro e w3 ⟨bm, rfl, hbm, rfl⟩
            cases bm
            · have HBM := Lib.hid (show (decide (1 ≤ (rungsAt gs i).length) && decide ((rungsAt gs i).length ≤ 8)) = false by rw [HRA.out, ← hbm.out]; congr 1 <;> (rw [decide_eq_decide]; omega))
              clear hbm
              go_wp2
              go_ret
              exact ⟨by rw [guard_false hil (guardS_len HBM.out)]; rfl, D2.C.bl⟩
            · have HBM := Lib.hid (show (decide (1 ≤ (rungsAt gs i).length) && decide ((rungsAt gs i).length ≤ 8)) = true by rw [HRA.out, ← hbm.out]; congr 1 <;> (rw [decide_eq_decide]; omega))
              clear hbm
              have HRS := Lib.hid (show ∀ j, j ≤ i → (rungsAt gs j).length < 1000000 from fun j hj => by
                rcases Nat.lt_or_ge j i with h | h
                · have := (guard_len (List.all_eq_true.1 hx.out j (List.mem_range.2 h))).2; omega
                · obtain rfl : j = i := by omega
                  have := HBM.out
                  simp only [Bool.and_eq_true, decide_eq_true_eq] at this
                  omega)
              have h8 : g.rungs.length ≤ 8 := by
                have := HBM.out
                rw [HRA.out] at this
                simp only [Bool.and_eq_true, decide_eq_true_eq] at this
                omega
              have HFI := Lib.hid (show ∀ r ∈ rungsAt gs i, FitR r by rw [HRA.out]; exact HF.out.rungs g hgm)
              go_wp2_with fail
              go_loopw [44] (fun s44 wx => ∃ k : Nat, s44 = .int .i64 k ∧ k ≤ g.rungs.length ∧ DSt w wx w.heap.size kb gs (some ⟨b, o, none⟩) c g q cq ∧ Hid ((List.range k).all (rungOKS gs i) = true)) (fun s44 _ => g.rungs.length - (intOf s44).toNat)
              case atStart => exact ⟨0, rfl, by omega, D2, rfl⟩
              case round =>
                clear D2 t1
                obtain ⟨k, rfl, hk, D, hy⟩ := hrel
                by_cases hkl : k < g.rungs.length
                · have s0 := D.C.s0
                  go_wp2_with fail
                  refine (rungOKN gs (some ⟨b, o, none⟩) c i k _ D.C.G D.C.gx hil (by rw [HRA.out]; exact hkl) (by omega) HRS.out HFI.out).mono ?_
                  rintro e w4 ⟨bk, rfl, hbk, hb4⟩
                  have D4 := D.below hb4
                  clear D hb4 s0
                  cases bk
                  · have HBK := Lib.hid hbk.out
                    clear hbk
                    go_wp2
                    go_ret
                    exact ⟨by rw [guard_false hil (guardS_oks (all_false_at (by rw [HRA.out]; exact hkl) HBK.out))]; rfl, D4.C.bl⟩
                  · have HBK := Lib.hid hbk.out
                    clear hbk
                    go_wp2
                    go_roundw
                    case rel => exact ⟨k + 1, by go_num, by omega, D4, range_all hy.out HBK.out⟩
                    case measure => simp [intOf]; omega
                · obtain rfl : k = g.rungs.length := by omega
                  have HOK := Lib.hid (show oksS gs i = true by unfold oksS; rw [HRA.out]; exact hy.out)
                  have HNX := Lib.hid (oks_next HOK.out)
                  clear hkl hk hy
                  have t1 := D.t1
                  go_wp2_with fail
                  go_loopw [56] (fun s56 wx => ∃ k : Nat, s56 = .int .i64 k ∧ k ≤ g.rungs.length ∧ DSt w wx w.heap.size kb gs (some ⟨b, o, none⟩) c g q cq ∧ Hid ((List.range k).all (endsS (rungsAt gs i) (rungsAt gs i).length) = true)) (fun s56 _ => g.rungs.length - (intOf s56).toNat)
                  case atStart => exact ⟨0, rfl, by omega, D, rfl⟩
                  case round =>
                    clear D t1
                    obtain ⟨k, rfl, hk, D, hy⟩ := hrel
                    by_cases hkl : k < g.rungs.length
                    · have t0 := D.t0; have t1 := D.t1
                      go_wp2_with fail
                      refine (endsN g.name q cq g.rungs k _ D.R (by omega) hkl (by rw [← HRA.out]; exact HNX.out)).mono ?_
                      rintro e w4 ⟨bk, rfl, hbk, hb4⟩
                      have D4 := D.below hb4
                      clear D hb4 t0 t1
                      cases bk
                      · have HBK := Lib.hid hbk.out
                        clear hbk
                        go_wp2
                        go_ret
                        exact ⟨by rw [guard_false hil (guardS_ends (all_false_at (j := k) (by rw [HRA.out]; exact hkl) (by rw [HRA.out]; exact HBK.out)))]; rfl, D4.C.bl⟩
                      · have HBK := Lib.hid hbk.out
                        clear hbk
                        go_wp2
                        go_roundw
                        case rel => exact ⟨k + 1, by go_num, by omega, D4, range_all hy.out (by rw [HRA.out]; exact HBK.out)⟩
                        case measure => simp [intOf]; omega
                    · obtain rfl : k = g.rungs.length := by omega
                      have HEN := Lib.hid (show endsAllS gs i = true by unfold endsAllS; have := hy.out; rw [HRA.out] at this ⊢; exact this)
                      have HGD := Lib.hid (guardS_true (by rw [HGA.out]; exact HBN.out) HTW.out HBM.out HOK.out HEN.out)
                      clear hkl hk hy
                      go_wp2
                      go_roundw
                      case rel => exact ⟨i + 1, by go_num, by omega, D.C, range_all hx.out HGD.out⟩
                      case measure => simp [intOf]; omega
          · go_wp2
            go_ret
            exact ⟨by rw [guard_false hil (guardS_twice HTW.out)]; rfl, D2.C.bl⟩
      · have hie : i = gs.length := by omega
        subst hie
        clear hil hi
        have HX := Lib.hid (sys_true hl1 hl3 hx.out)
        clear hx
        go_wp2
        go_ret
        exact ⟨by rw [HX.out]; rfl, S.bl⟩
  · obtain rfl : bl = false := by rw [← hbl.out]; simp; omega
    clear hbl
    have HX := Lib.hid (sys_long hlen)
    clear hlen
    go_wp2
    go_ret
    exact ⟨by rw [HX.out]; rfl, S0.bl⟩
end Go.Proofs.YtnkgbocdpngldaaGreatDoor

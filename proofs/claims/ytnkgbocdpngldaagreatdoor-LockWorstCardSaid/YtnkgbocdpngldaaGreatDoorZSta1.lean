/-
  al status read al a state: stateOf of package lock.
-/
import Derived.Test.YtnkgbocdpngldaaGreatDoorZStat
import Derived.Test.YtnkgbocdpngldaaGreatDoorZMach
set_option linter.unusedVariables false
set_option linter.unusedSimpArgs false
namespace Go.Proofs.YtnkgbocdpngldaaGreatDoor
open Go.RowKit Dc Dg

/-- guard g goes to rung k with some failed tries -/
def St.lay (x : St) (g : Nat) (k f : Int) : St :=
  match g with
  | 0 => ⟨k, x.a1, x.a2, f, x.f1, x.f2⟩
  | 1 => ⟨x.a0, k, x.a2, x.f0, f, x.f2⟩
  | _ => ⟨x.a0, x.a1, k, x.f0, x.f1, f⟩
theorem St.a_lay (x : St) {g j : Nat} (hg : g < 3) (hj : j < 3) (k f : Int) : (x.lay g k f).a j = if j = g then k else x.a j := by
  rcases lt3 hg with rfl | rfl | rfl <;> rcases lt3 hj with rfl | rfl | rfl <;> rfl
theorem St.f_lay (x : St) {g j : Nat} (hg : g < 3) (hj : j < 3) (k f : Int) : (x.lay g k f).f j = if j = g then f else x.f j := by
  rcases lt3 hg with rfl | rfl | rfl <;> rcases lt3 hj with rfl | rfl | rfl <;> rfl
theorem St.ext {x y : St} (ha : ∀ j, j < 3 → x.a j = y.a j) (hf : ∀ j, j < 3 → x.f j = y.f j) : x = y := by
  obtain ⟨x0, x1, x2, x3, x4, x5⟩ := x
  obtain ⟨y0, y1, y2, y3, y4, y5⟩ := y
  have a0 : x0 = y0 := ha 0 (by decide)
  have a1 : x1 = y1 := ha 1 (by decide)
  have a2 : x2 = y2 := ha 2 (by decide)
  have f0 : x3 = y3 := hf 0 (by decide)
  have f1 : x4 = y4 := hf 1 (by decide)
  have f2 : x5 = y5 := hf 2 (by decide)
  subst a0; subst a1; subst a2; subst f0; subst f1; subst f2
  rfl
theorem zero_f (g : Nat) : St.zero.f g = 0 := by unfold St.f St.zero; split <;> rfl
/-- the first i guards are laid -/
def fillS (al fl : List Int) : Nat → St
  | 0 => St.zero
  | i + 1 => (fillS al fl i).lay i (al[i]?.getD 0) (fl[i]?.getD 0)
theorem fill_a (al fl : List Int) {j : Nat} (hj : j < 3) : ∀ i, i ≤ 3 → (fillS al fl i).a j = if j < i then al[j]?.getD 0 else 0
  | 0, _ => by rw [if_neg (by omega)]; exact zero_a j
  | i + 1, hi => by
    rw [fillS, St.a_lay _ (by omega) hj, fill_a al fl hj i (by omega)]
    by_cases h : j = i
    · subst h; rw [if_pos rfl, if_pos (by omega)]
    · rw [if_neg h]
      by_cases h2 : j < i
      · rw [if_pos h2, if_pos (by omega)]
      · rw [if_neg h2, if_neg (by omega)]
theorem fill_f (al fl : List Int) {j : Nat} (hj : j < 3) : ∀ i, i ≤ 3 → (fillS al fl i).f j = if j < i then fl[j]?.getD 0 else 0
  | 0, _ => by rw [if_neg (by omega)]; exact zero_f j
  | i + 1, hi => by
    rw [fillS, St.f_lay _ (by omega) hj, fill_f al fl hj i (by omega)]
    by_cases h : j = i
    · subst h; rw [if_pos rfl, if_pos (by omega)]
    · rw [if_neg h]
      by_cases h2 : j < i
      · rw [if_pos h2, if_pos (by omega)]
      · rw [if_neg h2, if_neg (by omega)]
theorem atL_len {n : Nat} (hn : n ≤ 3) (x : St) : (atL n x).length = n := by unfold atL; simp; omega
theorem failL_len {n : Nat} (hn : n ≤ 3) (x : St) : (failL n x).length = n := by unfold failL; simp; omega
theorem atL_at {n : Nat} (hn : n ≤ 3) (x : St) {j : Nat} (hj : j < n) : (atL n x)[j]? = some (x.a j) := by
  unfold atL
  rw [List.getElem?_take_of_lt hj]
  rcases lt3 (show j < 3 by omega) with rfl | rfl | rfl <;> rfl
theorem failL_at {n : Nat} (hn : n ≤ 3) (x : St) {j : Nat} (hj : j < n) : (failL n x)[j]? = some (x.f j) := by
  unfold failL
  rw [List.getElem?_take_of_lt hj]
  rcases lt3 (show j < 3 by omega) with rfl | rfl | rfl <;> rfl
/-- where all guards are, and how many tries failed, spell a state in which all needs hold -/
structure StOK (gs : List Gd) (al fl : List Int) (y : St) : Prop where
  at_ : (machOf gs).At y
  held : HeldAll (machOf gs) y
  a : al = atL gs.length y
  f : fl = failL gs.length y
/-- the numbers of the first i guards are in their ranges -/
def inUp (gs : List Gd) (al fl : List Int) (i : Nat) : Prop := ∀ g, g < i → 0 ≤ al[g]?.getD 0 ∧ al[g]?.getD 0 < ((machOf gs).rungs g : Int) ∧ 0 ≤ fl[g]?.getD 0 ∧ fl[g]?.getD 0 < (machOf gs).tries g (al[g]?.getD 0).toNat
theorem fill_at {gs : List Gd} {al fl : List Int} (hn : gs.length ≤ 3) (h : inUp gs al fl gs.length) : (machOf gs).At (fillS al fl gs.length) := by
  have hM : (machOf gs).n = gs.length := rfl
  refine ⟨fun g hg => ?_, fun g hg => ?_, fun g hg h3 => ?_, fun g hg h3 => ?_⟩
  · rw [fill_a al fl (by omega) _ hn, if_pos (by omega)]
    obtain ⟨h1, h2, _⟩ := h g (by omega)
    exact ⟨h1, h2⟩
  · rw [fill_a al fl (by omega) _ hn, fill_f al fl (by omega) _ hn, if_pos (by omega), if_pos (by omega)]
    obtain ⟨_, _, h3, h4⟩ := h g (by omega)
    exact ⟨h3, h4⟩
  · rw [fill_a al fl h3 _ hn, if_neg (by omega)]
  · rw [fill_f al fl h3 _ hn, if_neg (by omega)]
theorem list_eq_of {l m : List Int} (h : l.length = m.length) (hg : ∀ j, j < l.length → l[j]? = m[j]?) : l = m := by
  refine List.ext_getElem? (fun j => ?_)
  by_cases hj : j < l.length
  · exact hg j hj
  · rw [List.getElem?_eq_none (by omega), List.getElem?_eq_none (by omega)]
theorem fill_ok {gs : List Gd} {al fl : List Int} (hn : gs.length ≤ 3) (hA : al.length = gs.length) (hF : fl.length = gs.length) (h : inUp gs al fl gs.length) (hh : HeldAll (machOf gs) (fillS al fl gs.length)) : StOK gs al fl (fillS al fl gs.length) := by
  refine ⟨fill_at hn h, hh, list_eq_of (by rw [atL_len hn, hA]) (fun j hj => ?_), list_eq_of (by rw [failL_len hn, hF]) (fun j hj => ?_)⟩
  · rw [atL_at hn _ (by omega), fill_a al fl (by omega) _ hn, if_pos (by omega), List.getElem?_eq_getElem hj]
    rfl
  · rw [failL_at hn _ (by omega), fill_f al fl (by omega) _ hn, if_pos (by omega), List.getElem?_eq_getElem hj]
    rfl
theorem StOK.up {gs : List Gd} {al fl : List Int} {y : St} (hn : gs.length ≤ 3) (h : StOK gs al fl y) : inUp gs al fl gs.length := by
  intro g hg
  rw [h.a, h.f, atL_at hn y hg, failL_at hn y hg]
  have h1 := h.at_.a g hg
  have h2 := h.at_.f g hg
  exact ⟨h1.1, h1.2, h2.1, h2.2⟩
theorem StOK.fill {gs : List Gd} {al fl : List Int} {y : St} (hn : gs.length ≤ 3) (h : StOK gs al fl y) : y = fillS al fl gs.length := by
  have hM : (machOf gs).n = gs.length := rfl
  refine St.ext (fun j hj => ?_) (fun j hj => ?_)
  · rw [fill_a al fl hj _ hn]
    by_cases hg : j < gs.length
    · rw [if_pos hg, h.a, atL_at hn y hg]; rfl
    · rw [if_neg hg, h.at_.a0 j (by omega) hj]
  · rw [fill_f al fl hj _ hn]
    by_cases hg : j < gs.length
    · rw [if_pos hg, h.f, failL_at hn y hg]; rfl
    · rw [if_neg hg, h.at_.f0 j (by omega) hj]
theorem StOK.lens {gs : List Gd} {al fl : List Int} {y : St} (hn : gs.length ≤ 3) (h : StOK gs al fl y) : al.length = gs.length ∧ fl.length = gs.length := ⟨by rw [h.a, atL_len hn], by rw [h.f, failL_len hn]⟩
theorem StOK.uniq {gs : List Gd} {al fl : List Int} {y z : St} (hn : gs.length ≤ 3) (h : StOK gs al fl y) (h2 : StOK gs al fl z) : y = z := (h.fill hn).trans (h2.fill hn).symm

/-- a status in memory, read -/
structure StatQ (w : World) (v : Value) (al fl : List Int) : Prop where
  at_ : ∃ u1 u2, v = .agg #[u1, u2] ∧ IntsQ w u1 al ∧ IntsQ w u2 fl
theorem StatQ.below {w w' : World} {v : Value} {al fl : List Int} (h : StatQ w v al fl) (hb : Below w.heap.size w w') : StatQ w' v al fl := by
  obtain ⟨u1, u2, e, h1, h2⟩ := h.at_
  exact ⟨u1, u2, e, h1.below hb, h2.below hb⟩
theorem StatR.q {B n : Nat} {w : World} {v : Value} {x : St} (h : StatR B n w v x) : StatQ w v (atL n x) (failL n x) := by
  obtain ⟨u1, u2, e, h1, h2⟩ := h
  exact ⟨u1, u2, e, h1.q, h2.q⟩

/-- the world in which guard g is laid -/
def layW (w : World) (b g : Nat) (k f : Int) : World := (w.setCell ⟨b, g, none⟩ (.int .i64 k)).setCell ⟨b, 3 + g, none⟩ (.int .i64 f)
theorem StP.lay1 {w : World} {b g : Nat} {x : St} (h : StP w b x) (hg : g < 3) (k : Int) : StP (w.setCell ⟨b, g, none⟩ (.int .i64 k)) b (x.lay g k (x.f g)) := by
  rcases lt3 hg with rfl | rfl | rfl
  · unfold StP; rw [heap_setCell_same w b 0 _ _ (.int .i64 k) h]; rfl
  · unfold StP; rw [heap_setCell_same w b 1 _ _ (.int .i64 k) h]; rfl
  · unfold StP; rw [heap_setCell_same w b 2 _ _ (.int .i64 k) h]; rfl
theorem StP.lay {w : World} {b g : Nat} {x : St} (h : StP w b x) (hg : g < 3) (k f : Int) : StP (layW w b g k f) b (x.lay g k f) := by
  have h1 := h.lay1 hg k
  unfold layW
  rcases lt3 hg with rfl | rfl | rfl
  · unfold StP; rw [heap_setCell_same _ b (3 + 0) _ _ (.int .i64 f) h1]; rfl
  · unfold StP; rw [heap_setCell_same _ b (3 + 1) _ _ (.int .i64 f) h1]; rfl
  · unfold StP; rw [heap_setCell_same _ b (3 + 2) _ _ (.int .i64 f) h1]; rfl
theorem layW_below {w : World} {n b g : Nat} {k f : Int} (hb : n ≤ b) : Below n w (layW w b g k f) := (((Below.refl n w).setCell (p := ⟨b, g, none⟩) hb _).setCell (p := ⟨b, 3 + g, none⟩) hb _)
theorem layW_other {w : World} {b g : Nat} {k f : Int} {i : Nat} (h : i ≠ b) : (layW w b g k f).heap[i]? = w.heap[i]? := by
  unfold layW
  rw [Below.heap_setCell _ _ _ _ h, Below.heap_setCell _ _ _ _ h]

/-- what stateOf's walk keeps -/
structure SoSt (w0 w : World) (u1 u2 : Value) (x : St) : Prop where
  s : w.heap[w0.heap.size]? = some (.cells #[u1, u2] 41 (0, 0))
  r : StP w (w0.heap.size + 1) St.zero
  o : StP w (w0.heap.size + 1 + 1) x
  bl : Below w0.heap.size w0 w
theorem SoSt.below {w0 w w' : World} {u1 u2 : Value} {x : St} (h : SoSt w0 w u1 u2 x) (hb : Below w.heap.size w w') : SoSt w0 w' u1 u2 x :=
  ⟨(hb.block _ (row_lt h.s)).trans h.s, h.r.below hb, h.o.below hb, h.bl.trans (hb.mono h.bl.size)⟩
theorem SoSt.lay {w0 w : World} {u1 u2 : Value} {x : St} (h : SoSt w0 w u1 u2 x) {g : Nat} (hg : g < 3) (k f : Int) : SoSt w0 (layW w (w0.heap.size + 1 + 1) g k f) u1 u2 (x.lay g k f) :=
  ⟨by rw [layW_other (by omega)]; exact h.s, by unfold StP; rw [layW_other (by omega)]; exact h.r, h.o.lay hg k f, h.bl.trans (layW_below (by omega))⟩
theorem SoSt.new (w : World) (u1 u2 : Value) : SoSt w (((w.alloc (.cells #[u1, u2] 41)).alloc (.cells #[.int .i64 0, .int .i64 0, .int .i64 0, .int .i64 0, .int .i64 0, .int .i64 0] 87)).alloc (.cells #[.int .i64 0, .int .i64 0, .int .i64 0, .int .i64 0, .int .i64 0, .int .i64 0] 87)) u1 u2 St.zero := by
  have hb1 : Below w.heap.size w (w.alloc (.cells #[u1, u2] 41)) := (Below.refl _ _).alloc (Nat.le_refl _) _
  have a0 := heap_alloc_new w (.cells #[u1, u2] 41)
  have hz1 : (w.alloc (.cells #[u1, u2] 41)).heap.size = w.heap.size + 1 := by simp
  generalize w.alloc (.cells #[u1, u2] 41) = w1 at *
  have hb2 : Below w1.heap.size w1 (w1.alloc (.cells #[.int .i64 0, .int .i64 0, .int .i64 0, .int .i64 0, .int .i64 0, .int .i64 0] 87)) := (Below.refl _ _).alloc (Nat.le_refl _) _
  have b0 := StP.new w1 St.zero
  have hz2 : (w1.alloc (.cells #[.int .i64 0, .int .i64 0, .int .i64 0, .int .i64 0, .int .i64 0, .int .i64 0] 87)).heap.size = w1.heap.size + 1 := by simp
  change StP (w1.alloc (.cells #[.int .i64 0, .int .i64 0, .int .i64 0, .int .i64 0, .int .i64 0, .int .i64 0] 87)) w1.heap.size St.zero at b0
  generalize w1.alloc (.cells #[.int .i64 0, .int .i64 0, .int .i64 0, .int .i64 0, .int .i64 0, .int .i64 0] 87) = w2 at *
  have hb3 : Below w2.heap.size w2 (w2.alloc (.cells #[.int .i64 0, .int .i64 0, .int .i64 0, .int .i64 0, .int .i64 0, .int .i64 0] 87)) := (Below.refl _ _).alloc (Nat.le_refl _) _
  have r0 := StP.new w2 St.zero
  change StP (w2.alloc (.cells #[.int .i64 0, .int .i64 0, .int .i64 0, .int .i64 0, .int .i64 0, .int .i64 0] 87)) w2.heap.size St.zero at r0
  rw [hz1] at b0
  rw [hz2, hz1] at r0
  have a1 := (hb2.block _ (row_lt a0)).trans a0
  refine ⟨(hb3.block _ (row_lt a1)).trans a1, b0.below hb3, r0, hb1.trans ((hb2.trans (hb3.mono hb2.size)).mono hb1.size)⟩
/-- what stateOf returns -/
def SoQ (gs : List Gd) (al fl : List Int) (w : World) (e : Ending) (w' : World) : Prop :=
  ∃ (y : St) (ok : Bool), e = .returned (.tuple #[.agg #[.int .i64 y.a0, .int .i64 y.a1, .int .i64 y.a2, .int .i64 y.f0, .int .i64 y.f1, .int .i64 y.f2], .bool ok]) ∧ (ok = true → StOK gs al fl y) ∧ (ok = false → ∀ z, ¬ StOK gs al fl z) ∧ Below w.heap.size w w'
theorem SoQ.no {gs : List Gd} {al fl : List Int} {w w' : World} (y : St) (h : ∀ z, ¬ StOK gs al fl z) (hb : Below w.heap.size w w') : SoQ gs al fl w (.returned (.tuple #[.agg #[.int .i64 y.a0, .int .i64 y.a1, .int .i64 y.a2, .int .i64 y.f0, .int .i64 y.f1, .int .i64 y.f2], .bool false])) w' :=
  ⟨y, false, rfl, (fun e => by cases e), fun _ => h, hb⟩
theorem SoQ.yes {gs : List Gd} {al fl : List Int} {w w' : World} (y : St) (h : StOK gs al fl y) (hb : Below w.heap.size w w') : SoQ gs al fl w (.returned (.tuple #[.agg #[.int .i64 y.a0, .int .i64 y.a1, .int .i64 y.a2, .int .i64 y.f0, .int .i64 y.f1, .int .i64 y.f2], .bool true])) w' :=
  ⟨y, true, rfl, fun _ => h, (fun e => by cases e), hb⟩
end Go.Proofs.YtnkgbocdpngldaaGreatDoor

/-
  LockWorst: the plain law. One guard of a valid system, its needs taken away, is a valid system with the same worst time.
  LockWorst: the rungs of a guard in a row of their own, their needs taken away.
  Small laws of statuses in memory.
-/
import Derived.Test.YtnkgbocdpngldaaGreatDoorZWor3
import Derived.Test.YtnkgbocdpngldaaGreatDoorZMach
import Derived.Test.YtnkgbocdpngldaaGreatDoorZCnt
import Derived.Test.YtnkgbocdpngldaaGreatDoorZArg
import Derived.Test.YtnkgbocdpngldaaGreatDoorZRow
import Derived.Test.YtnkgbocdpngldaaGreatDoorZHel1
import Derived.Test.YtnkgbocdpngldaaGreatDoorZGoa1
import Derived.Test.YtnkgbocdpngldaaGreatDoorZNev
set_option linter.unusedVariables false
set_option linter.unusedSimpArgs false
namespace Go.Proofs.YtnkgbocdpngldaaGreatDoor
open Go.RowKit Dc Dg

def loneR (r : Rg) : Rg := ⟨r.name, r.next, r.back, r.tries, r.minutes, [], r.loops⟩
def loneG (gs : List Gd) (g : Nat) : List Gd := [⟨(guardAt gs g).name, (rungsAt gs g).map loneR⟩]
theorem rungFrom_lone : ∀ (l : List Rg) (s : List UInt8) (k : Nat), rungFrom (l.map loneR) s k = rungFrom l s k
  | [], _, _ => rfl
  | r :: l, s, k => by
    show (if r.name.data.toList = s then (k : Int) else rungFrom (l.map loneR) s (k + 1)) = _
    rw [rungFrom_lone l s (k + 1)]; rfl
theorem rungI_lone (l : List Rg) (s : List UInt8) : rungI (l.map loneR) s = rungI l s := rungFrom_lone l s 0
theorem rungsAt_lone (gs : List Gd) (g : Nat) : rungsAt (loneG gs g) 0 = (rungsAt gs g).map loneR := rfl
theorem rgAt_lone (gs : List Gd) (g k : Nat) : rgAt (loneG gs g) 0 k = loneR (rgAt gs g k) := by
  unfold rgAt
  rw [rungsAt_lone, List.getElem?_map]
  cases (rungsAt gs g)[k]? <;> rfl
theorem endsS_lone (l : List Rg) : ∀ (m k : Nat), endsS (l.map loneR) m k = endsS l m k
  | 0, _ => rfl
  | m + 1, k => by
    rw [endsS, endsS, List.getElem?_map]
    cases l[k]? with
    | none => rfl
    | some r =>
      show (if r.next.data.toList = [] then true else endsS (l.map loneR) m (rungI (l.map loneR) r.next.data.toList).toNat) = _
      rw [rungI_lone, endsS_lone l m]
theorem waysS_lone {l : List Rg} {k : Nat} {r : Rg} (h : waysS l k r = true) : waysS (l.map loneR) k (loneR r) = true := by
  have e : waysS (l.map loneR) k (loneR r) = !(!decide (r.next.data.toList = []) && decide (rungI l r.next.data.toList < 0) || decide (rungI l r.back.data.toList < 0) || decide ((k : Int) ≤ rungI l r.back.data.toList) && decide (0 < k) || decide (k = 0) && (!decide (rungI l r.back.data.toList = 0) || decide (0 < 0))) := by
    unfold waysS
    rw [show (loneR r).next = r.next from rfl, show (loneR r).back = r.back from rfl, rungI_lone, rungI_lone]
    rfl
  rw [e]
  unfold waysS at h
  revert h
  cases decide (0 < r.needs.length) <;> cases decide (rungI l r.back.data.toList = 0) <;> cases decide (k = 0) <;> simp
theorem sys_lone {gs : List Gd} (hS : sysS gs = true) {g : Nat} (hg : g < gs.length) : sysS (loneG gs g) = true := by
  have hG := sys_guard hS hg
  have hl := guard_len hG
  have hlen : ((rungsAt gs g).map loneR).length = (rungsAt gs g).length := by simp
  refine sys_true (Nat.le_refl 1) (by show 1 ≤ 3; omega) ?_
  show (guardS (loneG gs g) 0 && true) = true
  rw [Bool.and_true]
  have hG2 := hG
  unfold guardS at hG2
  simp only [Bool.and_eq_true] at hG2
  refine guardS_true hG2.1.1.1.1 rfl ?_ ?_ ?_
  · rw [rungsAt_lone, hlen, decide_eq_true hl.1, decide_eq_true hl.2]; rfl
  · unfold oksS
    rw [rungsAt_lone, hlen, List.all_eq_true]
    intro k hk
    have hk2 := List.mem_range.1 hk
    have hr := guard_rung hG hk2
    have hget : ((rungsAt gs g).map loneR)[k]? = some (loneR (rgAt gs g k)) := by
      rw [List.getElem?_map]; unfold rgAt; rw [List.getElem?_eq_getElem hk2]; rfl
    unfold rungOKS
    rw [rungsAt_lone, hget]
    unfold rungS at hr ⊢
    simp only [Bool.and_eq_true] at hr ⊢
    refine ⟨⟨⟨?_, waysS_lone hr.1.1.2⟩, rfl⟩, hr.2⟩
    have h1 := hr.1.1.1
    unfold selfS at h1 ⊢
    rw [rungI_lone]; exact h1
  · unfold endsAllS
    rw [rungsAt_lone, hlen, List.all_eq_true]
    intro k hk
    rw [endsS_lone]
    exact List.all_eq_true.1 hG2.2 k hk
theorem lone_next (gs : List Gd) (g k : Nat) : (machOf (loneG gs g)).next 0 k = (machOf gs).next g k := by
  show rungI (rungsAt (loneG gs g) 0) (rgAt (loneG gs g) 0 k).next.data.toList = _
  rw [rgAt_lone, rungsAt_lone, rungI_lone]; rfl
theorem lone_back (gs : List Gd) (g k : Nat) : (machOf (loneG gs g)).back 0 k = (machOf gs).back g k := by
  show rungI (rungsAt (loneG gs g) 0) (rgAt (loneG gs g) 0 k).back.data.toList = _
  rw [rgAt_lone, rungsAt_lone, rungI_lone]; rfl
theorem lone_tries (gs : List Gd) (g k : Nat) : (machOf (loneG gs g)).tries 0 k = (machOf gs).tries g k := by
  show (rgAt (loneG gs g) 0 k).tries = _
  rw [rgAt_lone]; rfl
theorem lone_mins (gs : List Gd) (g k : Nat) : (machOf (loneG gs g)).mins 0 k = (machOf gs).mins g k := by
  show (rgAt (loneG gs g) 0 k).minutes = _
  rw [rgAt_lone]; rfl
theorem lone_worst (gs : List Gd) (g k f left : Nat) : worstS (machOf (loneG gs g)) 0 k f left = worstS (machOf gs) g k f left :=
  worstS_congr (lone_next gs g) (lone_back gs g) (lone_tries gs g) (lone_mins gs g) k f left
theorem lone_is {gs : List Gd} (hS : sysS gs = true) {g : Nat} (hg : g < gs.length) : Lone (machOf (loneG gs g)) := by
  refine ⟨leads_of (sys_lone hS hg) (Nat.lt_succ_self 0), rfl, fun k => ?_⟩
  show (rgAt (loneG gs g) 0 k).needs.map (needI (loneG gs g)) = []
  rw [rgAt_lone]; rfl
theorem guardAt_mem {gs : List Gd} {g : Nat} (hg : g < gs.length) : guardAt gs g ∈ gs ∧ (guardAt gs g).rungs = rungsAt gs g := by
  unfold guardAt rungsAt
  rw [List.getElem?_eq_getElem hg]
  exact ⟨List.getElem_mem hg, rfl⟩
theorem fit_lone {gs : List Gd} (h : FitG gs) {g : Nat} (hg : g < gs.length) : FitG (loneG gs g) := by
  obtain ⟨h1, h2⟩ := guardAt_mem hg
  refine ⟨fun x hx => ?_, fun x hx r hr => ?_, fun x hx => ?_⟩ <;> (obtain rfl := List.mem_singleton.1 hx)
  · show (guardAt gs g).name.size ≤ _
    exact h.names _ h1
  · obtain ⟨r0, hr0, rfl⟩ := List.mem_map.1 hr
    have hf := h.rungs _ h1 r0 (by rw [h2]; exact hr0)
    exact ⟨hf.n, by show 0 ≤ _; omega, hf.loops, fun x hx => by cases hx⟩
  · show ((rungsAt gs g).map loneR).length ≤ _
    rw [List.length_map, ← h2]; exact h.len _ h1

/-- what the loop of LockWorst keeps: the state, the time, how many events went wrong -/
structure WorIn (M : Mach) (bad : Nat) (y : St) (i : Nat) (time wrong : Int) : Prop where
  at_ : M.At y
  w0 : 0 ≤ wrong
  wb : wrong ≤ bad
  t0 : 0 ≤ time
  left : time + worstS M 0 (y.a 0).toNat (y.f 0).toNat (bad - wrong.toNat) ≤ worstS M 0 0 0 bad
  deep : ∃ e, endsM M 0 e (y.a 0).toNat = true ∧ (bad - wrong.toNat) * 9 + e + i ≤ bad * 9 + 8
theorem WorIn.start {M : Mach} (L : Lone M) (bad : Nat) : WorIn M bad St.zero 0 0 0 := by
  have G := L.leads.good
  have h1 := L.one
  have r0 := G.r0 0 (by omega)
  refine ⟨Mach.At.zero G, Int.le_refl _, by omega, Int.le_refl _, ?_, 8, ?_, ?_⟩
  · show (0 : Int) + worstS M 0 0 0 bad ≤ _
    omega
  · exact L.leads.eight (by show 0 < _; omega)
  · show bad * 9 + 8 + 0 ≤ _
    omega
theorem WorIn.few {M : Mach} {bad i : Nat} {y : St} {time wrong : Int} (h : WorIn M bad y i time wrong) (hb : bad ≤ 8) : i < 200 := by
  obtain ⟨e, _, he⟩ := h.deep
  omega
theorem WorIn.fine {M : Mach} (L : Lone M) {bad i : Nat} {y : St} {time wrong : Int} (h : WorIn M bad y i time wrong) (hb : bad ≤ 8) : time ≤ worstS M 0 0 0 bad ∧ time ≤ 5000 := by
  have G := L.leads.good
  have h1 := L.one
  have r0 := G.r0 0 (by omega)
  have ha := h.at_.a 0 (by omega)
  have := h.left
  have := (worstS_range L.leads (k := (y.a 0).toNat) (f := (y.f 0).toNat) (left := bad - wrong.toNat) (by omega) (by omega)).1
  have := (worstS_range L.leads (k := 0) (f := 0) (left := bad) (by omega) hb).2
  omega
theorem WorIn.step {M : Mach} (L : Lone M) {bad i : Nat} {y : St} {time wrong : Int} (h : WorIn M bad y i time wrong) {k : Int} (hk : 0 ≤ k ∧ k ≤ 2) (hw : k ≠ 0 → wrong < bad) (hn : 0 ≤ M.next 0 (y.a 0).toNat) :
    WorIn M bad (moveS M y ⟨0, k⟩) (i + 1) (time + M.mins 0 (y.a 0).toNat) (if k = 0 then wrong else wrong + 1) := by
  have G := L.leads.good
  have h1 := L.one
  have r0 := G.r0 0 (by omega)
  have ha := h.at_.a 0 (by omega)
  have hw0 := h.w0
  have hwb := h.wb
  have ht := h.t0
  have hl := h.left
  have hm := G.mins 0 (y.a 0).toNat (by omega) (by omega)
  obtain ⟨e, he1, he2⟩ := h.deep
  obtain ⟨a1, a2, e', a3, a4⟩ := worst_round L h.at_ hk hn (left := bad - wrong.toNat) (l := bad - (if k = 0 then wrong else wrong + 1).toNat) (by
    split
    · rfl
    · rename_i h0; have := hw h0; omega) he1
  refine ⟨a1, by split <;> omega, ?_, by omega, by omega, e', a3, by omega⟩
  split
  · omega
  · rename_i h0; have := hw h0; omega
end Go.Proofs.YtnkgbocdpngldaaGreatDoor

namespace Go.Proofs.YtnkgbocdpngldaaGreatDoor
open Go.RowKit Dc Dg

/-- a rung, and where its needs and its loops lie -/
abbrev RgC := Rg × (Option Addr × Nat) × (Option Addr × Nat)
def rgCells (x : RgC) : List Value := [.string x.1.name, .string x.1.next, .string x.1.back, .int .i64 x.1.tries, .int .i64 x.1.minutes, .slice x.2.1.1 x.1.needs.length x.2.1.2, .slice x.2.2.1 x.1.loops.length x.2.2.2]
theorem rgCells_len (x : RgC) : (rgCells x).length = 7 := rfl
def flatR (l : List RgC) : List Value := l.flatMap rgCells
def loneC (x : RgC) : RgC := (loneR x.1, (none, 0), x.2.2)
theorem flatR_len : ∀ l : List RgC, (flatR l).length = l.length * 7
  | [] => rfl
  | x :: l => by
    have := flatR_len l
    unfold flatR at *
    rw [List.flatMap_cons, List.length_append, this, rgCells_len, List.length_cons]; omega
theorem flatR_get : ∀ (l : List RgC) (i : Nat) (h : i < l.length) (j : Nat), j < 7 → (flatR l)[i * 7 + j]? = (rgCells l[i])[j]?
  | [], i, h, _, _ => by simp at h
  | x :: l, 0, h, j, hj => by
    unfold flatR
    rw [List.flatMap_cons, List.getElem?_append_left (by rw [rgCells_len]; omega)]
    simp
  | x :: l, i + 1, h, j, hj => by
    have := flatR_get l i (by simpa using h) j hj
    unfold flatR at *
    rw [List.flatMap_cons, List.getElem?_append_right (by rw [rgCells_len]; omega), rgCells_len, show (i + 1) * 7 + j - 7 = i * 7 + j from by omega, this]
    simp
theorem flatR_set : ∀ (l : List RgC) (i : Nat) (h : i < l.length), (flatR l).set (i * 7 + 5) (.slice none 0 0) = flatR (l.set i (loneC l[i]))
  | [], i, h => by simp at h
  | x :: l, 0, h => by
    unfold flatR
    rw [List.set_cons_zero, List.flatMap_cons, List.flatMap_cons, List.set_append_left _ _ (by rw [rgCells_len]; omega)]
    rfl
  | x :: l, i + 1, h => by
    have := flatR_set l i (by simpa using h)
    unfold flatR at *
    rw [List.set_cons_succ, List.flatMap_cons, List.flatMap_cons, List.set_append_right _ _ (by rw [rgCells_len]; omega), rgCells_len, show (i + 1) * 7 + 5 - 7 = i * 7 + 5 from by omega, this]
    rfl
/-- the first i rungs without their needs -/
def clrC (l : List RgC) (i : Nat) : List RgC := (l.take i).map loneC ++ l.drop i
theorem clrC_zero (l : List RgC) : clrC l 0 = l := rfl
theorem clrC_end (l : List RgC) : clrC l l.length = l.map loneC := by unfold clrC; rw [List.take_length, List.drop_length, List.append_nil]
theorem clrC_len (l : List RgC) (i : Nat) : (clrC l i).length = l.length := by unfold clrC; simp; omega
theorem clrC_get {l : List RgC} {i : Nat} (h : i < l.length) : (clrC l i)[i]'(by rw [clrC_len]; exact h) = l[i] := by
  have h2 : ((l.take i).map loneC).length = i := by simp; omega
  unfold clrC
  rw [List.getElem_append_right (by omega)]
  simp only [h2, Nat.sub_self, List.getElem_drop, Nat.add_zero]
theorem clrC_step {l : List RgC} {i : Nat} (h : i < l.length) : (clrC l i).set i (loneC l[i]) = clrC l (i + 1) := by
  have h2 : ((l.take i).map loneC).length = i := by simp; omega
  unfold clrC
  rw [List.set_append_right _ _ (by omega), h2, Nat.sub_self, List.drop_eq_getElem_cons h, List.set_cons_zero, List.take_add_one, List.getElem?_eq_getElem h, List.map_append, List.append_assoc]
  rfl
/-- rungs in memory, as cells -/
theorem rungs_list {w : World} {b o : Nat} {l : List Rg} (h : ∀ i (h : i < l.length), ∃ q1 c1 q2 c2, RungAt w b (o + i * 7) l[i] q1 c1 q2 c2) :
    ∃ L : List RgC, L.map (·.1) = l ∧ ∀ i (hi : i < L.length), RungAt w b (o + i * 7) L[i].1 L[i].2.1.1 L[i].2.1.2 L[i].2.2.1 L[i].2.2.2 := by
  obtain ⟨L, hL, hp⟩ := list_of l.length (fun i (x : RgC) => l[i]? = some x.1 ∧ RungAt w b (o + i * 7) x.1 x.2.1.1 x.2.1.2 x.2.2.1 x.2.2.2) (fun i hi => by
    obtain ⟨q1, c1, q2, c2, h1⟩ := h i hi
    exact ⟨(l[i], (q1, c1), (q2, c2)), List.getElem?_eq_getElem hi, h1⟩)
  refine ⟨L, List.ext_getElem? (fun i => ?_), fun i hi => (hp i hi).2⟩
  by_cases hi : i < L.length
  · rw [List.getElem?_map, List.getElem?_eq_getElem hi, (hp i hi).1]; rfl
  · rw [List.getElem?_eq_none (by simpa using hi), List.getElem?_eq_none (by omega)]
theorem rung_cells {w : World} {b o : Nat} {x : RgC} (h : RungAt w b o x.1 x.2.1.1 x.2.1.2 x.2.2.1 x.2.2.2) : ∀ j u, (rgCells x)[j]? = some u → w.cell? ⟨b, o + j, none⟩ = some u := by
  intro j u hu
  match j, hu with
  | 0, hu => simp [rgCells] at hu; subst hu; exact h.d0
  | 1, hu => simp [rgCells] at hu; subst hu; exact h.d1
  | 2, hu => simp [rgCells] at hu; subst hu; exact h.d2
  | 3, hu => simp [rgCells] at hu; subst hu; exact h.d3
  | 4, hu => simp [rgCells] at hu; subst hu; exact h.d4
  | 5, hu => simp [rgCells] at hu; subst hu; exact h.d5
  | 6, hu => simp [rgCells] at hu; subst hu; exact h.d6
  | j + 7, hu => simp [rgCells] at hu
theorem flat_cells {w : World} {b o : Nat} {L : List RgC} (h : ∀ i (hi : i < L.length), RungAt w b (o + i * 7) L[i].1 L[i].2.1.1 L[i].2.1.2 L[i].2.2.1 L[i].2.2.2) : ∀ j u, (flatR L)[j]? = some u → w.cell? ⟨b, o + j, none⟩ = some u := by
  intro j u hu
  have hj := (List.getElem?_eq_some_iff.1 hu).1
  rw [flatR_len] at hj
  have hi : j / 7 < L.length := by omega
  have hm : j % 7 < 7 := Nat.mod_lt _ (by decide)
  have e : j = j / 7 * 7 + j % 7 := by omega
  rw [e] at hu ⊢
  rw [flatR_get L _ hi _ hm] at hu
  have := rung_cells (h _ hi) _ _ hu
  rw [Nat.add_assoc] at this
  exact this
theorem flat_one (L : List RgC) : ∀ u ∈ flatR L, u.oneCell' = true := by
  intro u hu
  obtain ⟨x, _, hx⟩ := List.mem_flatMap.1 hu
  simp only [rgCells, List.mem_cons, List.not_mem_nil, or_false] at hx
  rcases hx with rfl | rfl | rfl | rfl | rfl | rfl | rfl <;> rfl
/-- a row of rungs without needs is rungs in memory -/
theorem rungs_row {B : Nat} {w w0 : World} {p : Option Addr} {n c : Nat} {L : List RgC} (h : w.ownsRow B 59 7 (.slice p n c) n (flatR (L.map loneC))) (hn : n = L.length) (hl : ∀ x ∈ L, LoopsP w x.2.2.1 x.1.loops) : RungsP w p ((L.map (·.1)).map loneR) := by
  refine ⟨fun h0 => ?_⟩
  simp only [List.length_map] at h0
  rcases h.2 with ⟨_, h2⟩ | ⟨g, cap, cur, he, _, hg, _⟩
  · omega
  obtain ⟨rfl, -⟩ : p = some ⟨g, 0, none⟩ ∧ c = cap := by simpa using he
  refine ⟨g, 0, rfl, (Array.getElem?_eq_some_iff.1 hg).1, fun i hi => ?_⟩
  simp only [List.length_map] at hi
  have key : ∀ j u, j < 7 → (rgCells (loneC L[i]))[j]? = some u → w.cell? ⟨g, 0 + i * 7 + j, none⟩ = some u := by
    intro j u hj hu
    have h3 : (flatR (L.map loneC))[i * 7 + j]? = some u := by
      rw [flatR_get _ i (by simpa using hi) j hj, List.getElem_map]; exact hu
    have := World.ownsRow.cells h (g := g) rfl _ _ h3
    rw [addr_add] at this
    rw [Nat.add_assoc]; exact this
  simp only [List.getElem_map]
  exact ⟨none, 0, L[i].2.2.1, L[i].2.2.2, ⟨key 0 _ (by omega) rfl, key 1 _ (by omega) rfl, key 2 _ (by omega) rfl, key 3 _ (by omega) rfl, key 4 _ (by omega) rfl, key 5 _ (by omega) rfl, key 6 _ (by omega) rfl, ⟨fun h => absurd h (Nat.lt_irrefl 0)⟩, hl _ (List.getElem_mem _)⟩⟩
end Go.Proofs.YtnkgbocdpngldaaGreatDoor

namespace Go.Proofs.YtnkgbocdpngldaaGreatDoor
open Go.RowKit Dc Dg

theorem StatR.below {B n : Nat} {w w' : World} {v : Value} {x : St} (h : StatR B n w v x) (hb : Below w.heap.size w w') : StatR B n w' v x := by
  obtain ⟨u1, u2, e, h1, h2⟩ := h
  exact ⟨u1, u2, e, h1.below hb, h2.below hb⟩
theorem StatR.base {B B' n : Nat} {w : World} {v : Value} {x : St} (h : StatR B n w v x) (hb : B' ≤ B) : StatR B' n w v x := by
  obtain ⟨u1, u2, e, h1, h2⟩ := h
  exact ⟨u1, u2, e, h1.base hb, h2.base hb⟩
def putSt2 (w : World) (b : Nat) (u1 u2 : Value) : World := (w.setCell ⟨b, 0, none⟩ u1).setCell ⟨b, 1, none⟩ u2
theorem putSt2_row {w : World} {b : Nat} {v1 v2 u1 u2 : Value} {t : TypeId} (h : w.heap[b]? = some (.cells #[v1, v2] t (0, 0))) : (putSt2 w b u1 u2).heap[b]? = some (.cells #[u1, u2] t (0, 0)) := by
  have e1 := heap_setCell_same w b 0 _ _ u1 h
  exact heap_setCell_same _ b 1 _ _ u2 e1
theorem putSt2_below {w : World} {n b : Nat} {u1 u2 : Value} (hb : n ≤ b) : Below n w (putSt2 w b u1 u2) := ((Below.refl n w).setCell (p := ⟨b, 0, none⟩) hb _).setCell (p := ⟨b, 1, none⟩) hb _
theorem putSt2_other {w : World} {b k : Nat} {u1 u2 : Value} (h : k ≠ b) : (putSt2 w b u1 u2).heap[k]? = w.heap[k]? := by
  unfold putSt2
  rw [Below.heap_setCell _ _ _ _ h, Below.heap_setCell _ _ _ _ h]
theorem StatR.put {B n : Nat} {w : World} {v : Value} {x : St} (h : StatR B n w v x) {b : Nat} (u1 u2 : Value) {cs : Array Value} {t : TypeId} {r : Nat × Nat} (hb : w.heap[b]? = some (.cells cs t r)) (ht : t ≠ 3) : StatR B n (putSt2 w b u1 u2) v x := by
  have key : ∀ {v : Value} {l : List Int}, IntR B w v l → IntR B (putSt2 w b u1 u2) v l := fun hi => hi.same (fun k hk => putSt2_other (fun e => by
    obtain ⟨_, _, cur, h1⟩ := row_type hi hk
    rw [e, hb] at h1
    exact ht (by cases h1; rfl)))
  obtain ⟨a1, a2, e, h1, h2⟩ := h
  exact ⟨a1, a2, e, key h1, key h2⟩
theorem MoveQ.fine {gs : List Gd} {al fl : List Int} {y : St} {v : Ev} {w w' : World} {e : Ending} (h : MoveQ gs al fl v w e w') (hS : sysS gs = true) (hy : StOK gs al fl y) (hv : okEv (machOf gs) v = true) :
    Below w.heap.size w w' ∧ ∃ u, e = .returned (.tuple #[u, .int .i64 0]) ∧ StatR w.heap.size gs.length w' u (moveS (machOf gs) y v) := by
  obtain ⟨hb, ⟨n, _, hn, _⟩ | ⟨z, _, hz, ⟨h1, _⟩ | ⟨_, u, he, hu⟩⟩⟩ := h
  · rcases hn with ⟨h1, _⟩ | ⟨_, _, h1⟩
    · rw [hS] at h1; cases h1
    · exact absurd hy (h1 y)
  · rw [hv] at h1; cases h1
  · have := hz.uniq (sys_len hS).2 hy
    subst this
    exact ⟨hb, u, he, hu⟩
end Go.Proofs.YtnkgbocdpngldaaGreatDoor

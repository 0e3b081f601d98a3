/-
  What the walks lean on: lists of digits in memory, and small laws on worlds. Conditions: none.
  The machine of a system in Lean: states, moves, the search breadth first.
  The search breadth first: what it keeps, that it comes to an end, and what it finds.
  What a search finds: the way, and that what is not found is met by no run.
  The worst time to a goal, in Lean.
  What a move keeps: the needs hold, and nobody rises but the guard that wins.
  The worst time: it bounds what a run takes, and grows with what may go wrong.
-/
import Derived.Test.YtnkgbocdpngldaaGreatDoorProg
import Derived.WalkKit
import Derived.WalkSpells
import Derived.WalkLawsBesides
import Derived.Lib.Hide
import Derived.Deep.QuietTactic
import Derived.BigQuiet
set_option linter.unusedVariables false
set_option linter.unusedSimpArgs false
namespace Go.Proofs.YtnkgbocdpngldaaGreatDoor
open Go.RowKit

/-- the j-th of some numbers (0 behind the last one) -/
def nth (l : List Nat) (j : Nat) : Nat := l.getD j 0
theorem nth_eq (l : List Nat) (j : Nat) (h : j < l.length) : nth l j = l[j] := by simp [nth, h]
theorem nth_mem {l : List Nat} {j : Nat} (h : j < l.length) : nth l j ∈ l := by rw [nth_eq l j h]; exact List.getElem_mem h
theorem nth_lt {l : List Nat} {j b : Nat} (hl : ∀ d ∈ l, d < b) (h : j < l.length) : nth l j < b := hl _ (nth_mem h)
theorem nth_take (l : List Nat) (k j : Nat) (h : j < k) : nth (l.take k) j = nth l j := by simp [nth, h]

/-- numbers as cells -/
def u64s (l : List Nat) : List Value := l.map fun (d : Nat) => Value.int .u64 (d : Int)
theorem u64s_length (l : List Nat) : (u64s l).length = l.length := by simp [u64s]
theorem u64s_get (l : List Nat) (j : Nat) (h : j < l.length) : (u64s l)[j]? = some (.int .u64 (nth l j)) := by simp [u64s, nth, h]
theorem u64s_append (l m : List Nat) : u64s (l ++ m) = u64s l ++ u64s m := by simp [u64s]
theorem u64s_take (l : List Nat) (k : Nat) : u64s (l.take k) = (u64s l).take k := by simp [u64s]
theorem u64s_set (l : List Nat) (k d : Nat) : u64s (l.set k d) = (u64s l).set k (.int .u64 d) := by simp [u64s, List.map_set]

/-- where numbers lie -/
def AtU (w : World) (p : Option Addr) (l : List Nat) : Prop :=
  0 < l.length → ∃ b o, p = some ⟨b, o, none⟩ ∧ b < w.heap.size ∧ ∀ j, j < l.length → w.cell? ⟨b, o + j, none⟩ = some (.int .u64 (nth l j))

/-- a slice that reads as numbers -/
def IsU (w : World) (v : Value) (l : List Nat) : Prop := ∃ p cap, v = .slice p l.length cap ∧ l.length ≤ cap ∧ cap ≤ maxLen ∧ AtU w p l

theorem IsU.below {w w' : World} {v : Value} {l : List Nat} (h : IsU w v l) (hb : Below w.heap.size w w') : IsU w' v l := by
  obtain ⟨p, cap, e, h1, h2, h3⟩ := h
  refine ⟨p, cap, e, h1, h2, fun hl => ?_⟩
  obtain ⟨b, o, e2, hlt, hc⟩ := h3 hl
  exact ⟨b, o, e2, Nat.lt_of_lt_of_le hlt hb.size, fun j hj => (hb.cell (p := ⟨b, o + j, none⟩) hlt).trans (hc j hj)⟩

/-- a slice of the call's own that holds numbers -/
abbrev OwnU (w : World) (base : Nat) (v : Value) (l : List Nat) : Prop := w.ownsRow base 243 1 v l.length (u64s l)

theorem OwnU.isU {w : World} {base : Nat} {v : Value} {l : List Nat} (h : OwnU w base v l) : IsU w v l := by
  obtain ⟨hlen, h⟩ := h
  rcases h with ⟨rfl, h0⟩ | ⟨g, cap, cur, rfl, hg, hh, hn, hm, hs, ht⟩
  · exact ⟨none, 0, by rw [h0], by omega, by simp [maxLen], fun hp => by omega⟩
  · refine ⟨some ⟨g, 0, none⟩, cap, rfl, hn, hm, fun _ => ⟨g, 0, rfl, ?_, fun j hj => ?_⟩⟩
    · exact (Array.getElem?_eq_some_iff.1 hh).1
    · rw [cell_of_row w g (0 + j) cur _ (0, 0) hh]
      have := u64s_get l j hj
      rw [← ht, List.getElem?_take, if_pos (by omega)] at this
      simpa using this

theorem OwnU.below {w w' : World} {base : Nat} {v : Value} {l : List Nat} (h : OwnU w base v l) (hb : Below w.heap.size w w') : OwnU w' base v l := by
  obtain ⟨hlen, h⟩ := h
  refine ⟨hlen, ?_⟩
  rcases h with h | ⟨g, cap, cur, rfl, hg, hh, r⟩
  · exact Or.inl h
  · exact Or.inr ⟨g, cap, cur, rfl, hg, by rw [hb.block g (Array.getElem?_eq_some_iff.1 hh).1]; exact hh, r⟩

theorem cell_one_new' (w : World) (d : Nat) : ∀ (j : Nat) (u : Value), [Value.int .u64 (d : Int)][j]? = some u → (w.alloc (.cells #[.int .u64 d] 243)).cell? ((⟨w.heap.size, 0, none⟩ : Addr).add j) = some u := by
  intro j u hj
  match j, hj with
  | 0, hj => simp at hj; subst hj; simp only [Addr.add, World.cell?, if_true, heap_alloc_new]; rfl

theorem Tryz.info243 : (Tryz.prog.info? 243).map (fun i => (i.zero, i.size, i.bytes)) = some (some (.int .u64 0), 1, 8) := by kernel_rfl

/-- 'append(l, x)' on a slice of the call's own: one number more. -/
theorem wpList_append_u {w : World} {ops : Array Oper} {rest : List Oper} {o : Oper} {a : Act} {Q : Exit → Act → World → Prop} (T : TypeId)
    (hT : Tryz.prog.underlying T = some (.slice 243)) (hgd : o.guard = none) (s x : Operand)
    (ho : o.op = .call { callee := .builtin .append, args := #[s, x], argTypes := #[T, T] })
    (base : Nat) (v : Value) (l : List Nat) (z : Int) (d : Nat) (hz : z = d) (hs : a.eval s = v) (hown : OwnU w base v l)
    (hx : a.eval x = .slice (some ⟨w.heap.size, 0, none⟩) 1 1) (hlen : l.length < 1000000000000) (hbase : base ≤ w.heap.size)
    (h : ∀ v' w', OwnU w' base v' (l ++ [d]) → (∀ B w0, Below B w0 w → B ≤ base → Below B w0 w') → wpList Tryz.prog ops Q rest (a.put o.dst v') w') :
    wpList Tryz.prog ops Q (o :: rest) a (w.alloc (.cells #[.int .u64 z] 243)) := by
  subst hz
  obtain ⟨i0, hi, hz0, hz1, hz2⟩ := info_parts Tryz.info243
  refine wpList_append_own _ hgd s x T ho base 243 i0 (.int .u64 0) 1 8 hT hi hz0 hz1 hz2 rfl (by decide) v l.length (u64s l) hs (hown.alloc _) ⟨w.heap.size, 0, none⟩ 1 1 [.int .u64 d] hx rfl ?_ ?_ ?_ ?_ ?_ ?_
  · exact cell_one_new' w d
  · intro u hu; simp at hu; subst hu; rfl
  · unfold maxLen; omega
  · omega
  · simp; omega
  · intro v' w' hown' hg _
    refine h v' w' ?_ ?_
    · have : u64s (l ++ [d]) = u64s l ++ [.int .u64 d] := by rw [u64s_append]; rfl
      rw [OwnU, this, List.length_append]; exact hown'
    · intro B w0 hb hB
      have hbs := hown.lt
      refine (hb.alloc (by omega) _).grown hg (by simp; omega) ?_
      intro k hk
      have := (hbs k hk).1
      omega

/-- numbers in a row of the call's own, from its head -/
def RowU (w : World) (g cap : Nat) (l : List Nat) : Prop := w.ownsRow g 243 1 (.slice (some ⟨g, 0, none⟩) l.length cap) l.length (u64s l)

theorem RowU.own {w : World} {g cap base : Nat} {l : List Nat} (h : RowU w g cap l) (hb : base ≤ g) : OwnU w base (.slice (some ⟨g, 0, none⟩) l.length cap) l := by
  obtain ⟨h1, h2⟩ := h
  refine ⟨h1, ?_⟩
  rcases h2 with h2 | ⟨g', cap', cur, e, _, r⟩
  · exact Or.inl h2
  · have : g' = g := by simp at e; exact e.1.symm
    subst this
    exact Or.inr ⟨g', cap', cur, e, hb, r⟩
theorem RowU.lt {w : World} {g cap : Nat} {l : List Nat} (h : RowU w g cap l) : g < w.heap.size := (World.ownsRow.lt h g rfl).2
theorem RowU.isU {w : World} {g cap : Nat} {l : List Nat} (h : RowU w g cap l) : IsU w (.slice (some ⟨g, 0, none⟩) l.length cap) l := OwnU.isU (h.own (Nat.le_refl _))
theorem RowU.cell {w : World} {g cap : Nat} {l : List Nat} (h : RowU w g cap l) {j : Nat} (hj : j < l.length) : w.cell? ⟨g, j, none⟩ = some (.int .u64 (nth l j)) := by
  rw [World.ownsRow.cellAt h j (by omega), u64s_get l j hj]
theorem RowU.free {w : World} {g cap : Nat} {l : List Nat} (h : RowU w g cap l) (j : Nat) : w.frozen? ⟨g, j, none⟩ = false := World.ownsRow.frozenAt h j
theorem RowU.set {w : World} {g cap : Nat} {l : List Nat} (h : RowU w g cap l) (j d : Nat) (z : Int) (hz : z = d) : RowU (w.setCell ⟨g, j, none⟩ (.int .u64 z)) g cap (l.set j d) := by
  subst hz
  have := (World.ownsRow.stored h j (.int .u64 d)).1
  unfold RowU
  rw [u64s_set, List.length_set]; exact this
theorem RowU.drewN {w : World} {g cap : Nat} {l : List Nat} (h : RowU w g cap l) (n : Nat) : RowU (w.drewN n) g cap l := h
theorem RowU.below {w w' : World} {g cap : Nat} {l : List Nat} (h : RowU w g cap l) (hb : Below w.heap.size w w') : RowU w' g cap l := OwnU.below h hb
theorem RowU.cap_le {w : World} {g cap : Nat} {l : List Nat} (h : RowU w g cap l) : l.length ≤ cap ∧ cap ≤ maxLen := by
  rcases h.2 with ⟨h', _⟩ | ⟨g', cap', cur, h', _, _, a, b, _⟩
  · simp at h'
  · simp at h'; obtain ⟨_, rfl⟩ := h'; exact ⟨a, b⟩

theorem AtU.below {w w' : World} {p : Option Addr} {l : List Nat} (h : AtU w p l) {B : Nat} (hb : Below B w w') (hB : w.heap.size ≤ B) : AtU w' p l := by
  intro hl
  obtain ⟨b, o, e2, hlt, hc⟩ := h hl
  exact ⟨b, o, e2, Nat.lt_of_lt_of_le hlt hb.size, fun j hj => (hb.cell (p := ⟨b, o + j, none⟩) (by show b < B; omega)).trans (hc j hj)⟩

/-- 'make(nat, n)' -/
theorem wpList_make_u {w : World} {ops : Array Oper} {rest : List Oper} {o : Oper} {a : Act} {Q : Exit → Act → World → Prop} (T : TypeId)
    (hT : Tryz.prog.underlying T = some (.slice 243)) (hgd : o.guard = none) (lo co : Operand) (hop : o.op = Op.makeSlice T lo co)
    (L C : Int) (n : Nat) (hl : a.eval lo = .int .i64 L) (hc : a.eval co = .int .i64 C) (hL : L = (n : Int)) (hC : C = (n : Int)) (hn : n ≤ 1000000000000)
    (hK : ∀ w', RowU w' w.heap.size n (List.replicate n 0) → (∀ B w0, Below B w0 w → B ≤ w.heap.size → Below B w0 w') → w.heap.size < w'.heap.size →
      wpList Tryz.prog ops Q rest (a.put o.dst (.slice (some ⟨w.heap.size, 0, none⟩) n n)) w') :
    wpList Tryz.prog ops Q (o :: rest) a w := by
  obtain ⟨i0, hi, hz0, hz1, hz2⟩ := info_parts Tryz.info243
  refine wpList_make_full _ hgd lo co T hop w.heap.size 243 i0 (.int .u64 0) 1 hT hi hz0 hz1 .i64 .i64 L C n hl hc hL hC (by rw [hz2]; omega) (by unfold maxLen; omega) (Nat.le_refl _) ?_
  intro w' hown hg
  have hr : RowU w' w.heap.size n (List.replicate n 0) := by
    unfold RowU u64s
    have e : (madeCells (Value.int .u64 0).cells (n * 1)).toList = (List.replicate n 0).map fun (d : Nat) => Value.int .u64 (d : Int) := by
      rw [Nat.mul_one]; simp [Value.cells, toList_madeCells_one]
    rw [e] at hown
    rw [List.length_replicate]; exact hown
  refine hK w' hr (fun B w0 hb hB => hb.grown hg hB (fun k h => by cases h)) hr.lt
end Go.Proofs.YtnkgbocdpngldaaGreatDoor

namespace Go.Proofs.YtnkgbocdpngldaaGreatDoor

structure St where
  a0 : Int
  a1 : Int
  a2 : Int
  f0 : Int
  f1 : Int
  f2 : Int
instance instSt : DecidableEq St := fun x y =>
  if h : x.a0 = y.a0 ∧ x.a1 = y.a1 ∧ x.a2 = y.a2 ∧ x.f0 = y.f0 ∧ x.f1 = y.f1 ∧ x.f2 = y.f2 then
    isTrue (by
      obtain ⟨h0, h1, h2, h3, h4, h5⟩ := h
      cases x; cases y
      simp only at h0 h1 h2 h3 h4 h5
      subst h0; subst h1; subst h2; subst h3; subst h4; subst h5
      rfl)
  else isFalse (fun e => h (by subst e; exact ⟨rfl, rfl, rfl, rfl, rfl, rfl⟩))
def St.a (x : St) : Nat → Int
  | 0 => x.a0
  | 1 => x.a1
  | _ => x.a2
def St.f (x : St) : Nat → Int
  | 0 => x.f0
  | 1 => x.f1
  | _ => x.f2
def St.zero : St := ⟨0, 0, 0, 0, 0, 0⟩
/-- guard g goes to rung k -/
def St.go (x : St) (g : Nat) (k : Int) : St :=
  match g with
  | 0 => ⟨k, x.a1, x.a2, 0, x.f1, x.f2⟩
  | 1 => ⟨x.a0, k, x.a2, x.f0, 0, x.f2⟩
  | _ => ⟨x.a0, x.a1, k, x.f0, x.f1, 0⟩
/-- guard g fails once more -/
def St.fail (x : St) (g : Nat) : St :=
  match g with
  | 0 => ⟨x.a0, x.a1, x.a2, x.f0 + 1, x.f1, x.f2⟩
  | 1 => ⟨x.a0, x.a1, x.a2, x.f0, x.f1 + 1, x.f2⟩
  | _ => ⟨x.a0, x.a1, x.a2, x.f0, x.f1, x.f2 + 1⟩

theorem lt3 {g : Nat} (h : g < 3) : g = 0 ∨ g = 1 ∨ g = 2 := by omega
theorem St.a_go (x : St) {g j : Nat} (hg : g < 3) (hj : j < 3) (k : Int) : (x.go g k).a j = if j = g then k else x.a j := by
  rcases lt3 hg with rfl | rfl | rfl <;> rcases lt3 hj with rfl | rfl | rfl <;> rfl
theorem St.f_go (x : St) {g j : Nat} (hg : g < 3) (hj : j < 3) (k : Int) : (x.go g k).f j = if j = g then 0 else x.f j := by
  rcases lt3 hg with rfl | rfl | rfl <;> rcases lt3 hj with rfl | rfl | rfl <;> rfl
theorem St.a_fail (x : St) {g : Nat} (hg : g < 3) (j : Nat) : (x.fail g).a j = x.a j := by
  rcases lt3 hg with rfl | rfl | rfl <;> (unfold St.a; split <;> rfl)
theorem St.f_fail (x : St) {g j : Nat} (hg : g < 3) (hj : j < 3) : (x.fail g).f j = if j = g then x.f j + 1 else x.f j := by
  rcases lt3 hg with rfl | rfl | rfl <;> rcases lt3 hj with rfl | rfl | rfl <;> rfl

structure Ev where
  g : Int
  k : Int
instance instEv : DecidableEq Ev := fun x y =>
  if h : x.g = y.g ∧ x.k = y.k then
    isTrue (by
      obtain ⟨h0, h1⟩ := h
      cases x; cases y
      simp only at h0 h1
      subst h0; subst h1
      rfl)
  else isFalse (fun e => h (by subst e; exact ⟨rfl, rfl⟩))

/-- a machine: of guard g and rung k the next rung (-1: none), the one to fall back to, the needs, the tries, the minutes; how many guards and rungs -/
structure Mach where
  n : Nat
  rungs : Nat → Nat
  next : Nat → Nat → Int
  back : Nat → Nat → Int
  needs : Nat → Nat → List (Nat × List Int)
  tries : Nat → Nat → Int
  mins : Nat → Nat → Int

/-- the machine of a valid system -/
structure Mach.Good (M : Mach) : Prop where
  n0 : 1 ≤ M.n
  n3 : M.n ≤ 3
  r0 : ∀ g, g < M.n → 1 ≤ M.rungs g
  r8 : ∀ g, g < M.n → M.rungs g ≤ 8
  next : ∀ g k, g < M.n → k < M.rungs g → -1 ≤ M.next g k ∧ M.next g k < M.rungs g
  back0 : ∀ g k, g < M.n → k < M.rungs g → 0 ≤ M.back g k
  back : ∀ g k, g < M.n → k < M.rungs g → 0 < k → M.back g k < k
  backz : ∀ g, g < M.n → M.back g 0 = 0
  needz : ∀ g, g < M.n → M.needs g 0 = []
  need : ∀ g k, g < M.n → k < M.rungs g → ∀ x ∈ M.needs g k, x.1 < g
  tries : ∀ g k, g < M.n → k < M.rungs g → 1 ≤ M.tries g k ∧ M.tries g k ≤ 4
  mins : ∀ g k, g < M.n → k < M.rungs g → 1 ≤ M.mins g k ∧ M.mins g k ≤ 60

/-- a state of a machine, the needs apart -/
structure Mach.At (M : Mach) (x : St) : Prop where
  a : ∀ g, g < M.n → 0 ≤ x.a g ∧ x.a g < M.rungs g
  f : ∀ g, g < M.n → 0 ≤ x.f g ∧ x.f g < M.tries g (x.a g).toNat
  a0 : ∀ g, M.n ≤ g → g < 3 → x.a g = 0
  f0 : ∀ g, M.n ≤ g → g < 3 → x.f g = 0

def heldS (M : Mach) (x : St) (g : Nat) : Bool := (M.needs g (x.a g).toNat).all (fun n => n.2.contains (x.a n.1))
/-- guard g falls back till its needs hold -/
def fall (M : Mach) (g : Nat) : Nat → St → St
  | 0, x => x
  | m + 1, x => if heldS M x g then x else fall M g m (x.go g (M.back g (x.a g).toNat))
def fallS (M : Mach) (g : Nat) (x : St) : St := fall M g ((x.a g).toNat + 1) x
/-- all guards fall back, those from i on -/
def falls (M : Mach) : Nat → Nat → St → St
  | 0, _, x => x
  | m + 1, i, x => falls M m (i + 1) (fallS M i x)
/-- the event itself -/
def actS (M : Mach) (x : St) (v : Ev) : St :=
  let g := v.g.toNat
  let k := (x.a g).toNat
  if v.k = 2 then x.go g 0
  else if v.k = 0 ∧ 0 ≤ M.next g k then x.go g (M.next g k)
  else if v.k = 1 ∧ x.f g = M.tries g k - 1 then x.go g (M.back g k)
  else if v.k = 1 then x.fail g
  else x
def moveS (M : Mach) (x : St) (v : Ev) : St := falls M M.n 0 (actS M x v)

theorem Mach.At.go {M : Mach} {x : St} (h : M.At x) (G : M.Good) {g : Nat} (hg : g < M.n) {k : Int} (hk : 0 ≤ k) (hk2 : k < M.rungs g) : M.At (x.go g k) := by
  have h3 := G.n3
  refine ⟨fun j hj => ?_, fun j hj => ?_, fun j hj hj3 => ?_, fun j hj hj3 => ?_⟩
  · rw [St.a_go _ (by omega) (by omega)]
    split
    · rename_i e; subst e; exact ⟨hk, hk2⟩
    · exact h.a j hj
  · rw [St.a_go _ (by omega) (by omega), St.f_go _ (by omega) (by omega)]
    split
    · rename_i e; subst e
      have := G.tries j k.toNat hj (by omega)
      omega
    · exact h.f j hj
  · rw [St.a_go _ (by omega) (by omega), if_neg (by omega)]; exact h.a0 j hj hj3
  · rw [St.f_go _ (by omega) (by omega), if_neg (by omega)]; exact h.f0 j hj hj3

theorem Mach.At.zero {M : Mach} (G : M.Good) : M.At St.zero := by
  have ha : ∀ g, St.zero.a g = 0 := fun g => by unfold St.a St.zero; split <;> rfl
  have hf : ∀ g, St.zero.f g = 0 := fun g => by unfold St.f St.zero; split <;> rfl
  refine ⟨fun g hg => ?_, fun g hg => ?_, fun g _ _ => ha g, fun g _ _ => hf g⟩
  · rw [ha]; have := G.r0 g hg; omega
  · rw [ha, hf]; have := G.tries g 0 hg (G.r0 g hg); simp; omega

theorem fall_more {M : Mach} (G : M.Good) {g : Nat} (hg : g < M.n) : ∀ (m : Nat) (x : St), M.At x → (x.a g).toNat < m → fall M g (m + 1) x = fall M g m x
  | 0, x, _, h => by omega
  | m + 1, x, hx, h => by
    rw [fall]
    conv => rhs; rw [fall]
    split
    · rfl
    · rename_i hh
      have ha := hx.a g hg
      have h3 := G.n3
      by_cases hz : (x.a g).toNat = 0
      · exfalso; apply hh; unfold heldS; rw [hz, G.needz g hg]; rfl
      · have hb := G.back g (x.a g).toNat hg (by omega) (by omega)
        have hb0 := G.back0 g (x.a g).toNat hg (by omega)
        refine fall_more G hg m _ (hx.go G hg hb0 (by omega)) ?_
        rw [St.a_go _ (by omega) (by omega), if_pos rfl]
        omega
theorem fall_enough {M : Mach} (G : M.Good) {g : Nat} (hg : g < M.n) {x : St} (hx : M.At x) : ∀ (d m : Nat), (x.a g).toNat < m → fall M g (m + d) x = fall M g m x
  | 0, _, _ => rfl
  | d + 1, m, h => by rw [← Nat.add_assoc, fall_more G hg _ _ hx (by omega), fall_enough G hg hx d m h]

/-- the rule of a guard whose needs do not hold -/
theorem fallS_step {M : Mach} (G : M.Good) {g : Nat} (hg : g < M.n) {x : St} (hx : M.At x) (hh : heldS M x g = false) :
    0 < (x.a g).toNat ∧ 0 ≤ M.back g (x.a g).toNat ∧ M.back g (x.a g).toNat < x.a g ∧ fallS M g x = fallS M g (x.go g (M.back g (x.a g).toNat)) := by
  have ha := hx.a g hg
  have h3 := G.n3
  by_cases hz : (x.a g).toNat = 0
  · exfalso
    have : heldS M x g = true := by unfold heldS; rw [hz, G.needz g hg]; rfl
    rw [this] at hh; cases hh
  · have hb := G.back g (x.a g).toNat hg (by omega) (by omega)
    have hb0 := G.back0 g (x.a g).toNat hg (by omega)
    refine ⟨by omega, hb0, by omega, ?_⟩
    have hgo := hx.go G hg hb0 (by omega)
    have hage : ((x.go g (M.back g (x.a g).toNat)).a g) = M.back g (x.a g).toNat := by rw [St.a_go _ (by omega) (by omega), if_pos rfl]
    unfold fallS
    conv => lhs; rw [fall, if_neg (by rw [hh]; exact Bool.false_ne_true)]
    rw [hage]
    have := fall_enough G hg hgo ((x.a g).toNat - ((M.back g (x.a g).toNat).toNat + 1)) ((M.back g (x.a g).toNat).toNat + 1) (by rw [hage]; omega)
    rw [← this]
    congr 1
    omega
theorem fallS_held {M : Mach} {g : Nat} {x : St} (hh : heldS M x g = true) : fallS M g x = x := by
  unfold fallS; rw [fall, if_pos hh]

theorem fall_at {M : Mach} (G : M.Good) {g : Nat} (hg : g < M.n) : ∀ (m : Nat) (x : St), M.At x → M.At (fall M g m x)
  | 0, _, h => h
  | m + 1, x, h => by
    rw [fall]
    split
    · exact h
    · have ha := h.a g hg
      have hb0 := G.back0 g (x.a g).toNat hg (by omega)
      refine fall_at G hg m _ (h.go G hg hb0 ?_)
      by_cases hz : (x.a g).toNat = 0
      · rw [hz, G.backz g hg]; have := G.r0 g hg; omega
      · have hb := G.back g (x.a g).toNat hg (by omega) (by omega); omega
theorem falls_at {M : Mach} (G : M.Good) : ∀ (m i : Nat) (x : St), i + m ≤ M.n → M.At x → M.At (falls M m i x)
  | 0, _, _, _, h => h
  | m + 1, i, x, hi, h => falls_at G m (i + 1) _ (by omega) (fall_at G (by omega) _ _ h)
def okEv (M : Mach) (v : Ev) : Bool := (decide (0 ≤ v.g) && decide (v.g ≤ (M.n : Int) - 1)) && (decide (0 ≤ v.k) && decide (v.k ≤ 2))
theorem okEv_iff {M : Mach} {v : Ev} : okEv M v = true ↔ (0 ≤ v.g ∧ v.g < M.n ∧ 0 ≤ v.k ∧ v.k ≤ 2) := by
  unfold okEv
  simp only [Bool.and_eq_true, decide_eq_true_eq]
  omega
theorem act_at {M : Mach} (G : M.Good) {x : St} (h : M.At x) {v : Ev} (hv : okEv M v = true) : M.At (actS M x v) := by
  obtain ⟨h1, h2, h3, h4⟩ := okEv_iff.1 hv
  have hg : v.g.toNat < M.n := by omega
  have ha := h.a _ hg
  have hf := h.f _ hg
  have hn3 := G.n3
  have hr := G.r0 _ hg
  have hn := G.next v.g.toNat (x.a v.g.toNat).toNat hg (by omega)
  have hb0 := G.back0 v.g.toNat (x.a v.g.toNat).toNat hg (by omega)
  have hb : M.back v.g.toNat (x.a v.g.toNat).toNat < M.rungs v.g.toNat := by
    by_cases hz : (x.a v.g.toNat).toNat = 0
    · rw [hz, G.backz _ hg]; omega
    · have hb := G.back v.g.toNat (x.a v.g.toNat).toNat hg (by omega) (by omega); omega
  unfold actS
  simp only
  split
  · exact h.go G hg (by omega) (by omega)
  · split
    · exact h.go G hg (by omega) (by omega)
    · split
      · exact h.go G hg hb0 hb
      · rename_i hne
        split
        · rename_i hk
          refine ⟨fun j hj => by rw [St.a_fail _ (by omega)]; exact h.a j hj, fun j hj => ?_, fun j hj hj3 => by rw [St.a_fail _ (by omega)]; exact h.a0 j hj hj3, fun j hj hj3 => ?_⟩
          · rw [St.a_fail _ (by omega), St.f_fail _ (by omega) (by omega)]
            have := h.f j hj
            split
            · rename_i e; subst e
              have : ¬ x.f v.g.toNat = M.tries v.g.toNat (x.a v.g.toNat).toNat - 1 := fun e => hne ⟨hk, e⟩
              omega
            · exact this
          · rw [St.f_fail _ (by omega) (by omega), if_neg (by omega)]; exact h.f0 j hj hj3
        · exact h
theorem move_at {M : Mach} (G : M.Good) {x : St} (h : M.At x) {v : Ev} (hv : okEv M v = true) : M.At (moveS M x v) :=
  falls_at G _ _ _ (by omega) (act_at G h hv)

/-! ### the search -/
structure Step where
  src : St
  ev : Ev
  first : Bool
def Tab := List (St × Step)
def Tab.get (R : List (St × Step)) (x : St) : Option Step := (R.find? (fun p => decide (p.1 = x))).map (·.2)
def evs (n : Nat) : List Ev := (List.range n).flatMap (fun (g : Nat) => [⟨g, 0⟩, ⟨g, 1⟩, ⟨g, 2⟩])
/-- one event of the state that is looked at -/
def addS (M : Mach) (al : Ev → Bool) (now : St) (s : List (St × Step) × List St) (v : Ev) : List (St × Step) × List St :=
  if (Tab.get s.1 (moveS M now v)).isNone && al v then (s.1 ++ [(moveS M now v, ⟨now, v, false⟩)], s.2 ++ [moveS M now v]) else s
def growS (M : Mach) (al : Ev → Bool) (now : St) (s : List (St × Step) × List St) : List (St × Step) × List St := (evs M.n).foldl (addS M al now) s
def bfs (M : Mach) (al : Ev → Bool) (fd : St → Bool) : Nat → List (St × Step) → List St → Option St × List (St × Step)
  | 0, R, _ => (none, R)
  | _ + 1, R, [] => (none, R)
  | m + 1, R, now :: q => if fd now then (some now, R) else bfs M al fd m (growS M al now (R, q)).1 (growS M al now (R, q)).2
/-- the events back to the first state, the last one first -/
def backS (R : List (St × Step)) : Nat → St → List Ev
  | 0, _ => []
  | m + 1, x => match Tab.get R x with
    | none => []
    | some s => if s.first then [] else s.ev :: backS R m s.src
def tab0 (x : St) : List (St × Step) := [(x, ⟨St.zero, ⟨0, 0⟩, true⟩)]
def searchS (M : Mach) (x : St) (al : Ev → Bool) (fd : St → Bool) : Option St × List (St × Step) := bfs M al fd 65537 (tab0 x) [x]
end Go.Proofs.YtnkgbocdpngldaaGreatDoor

namespace Go.Proofs.YtnkgbocdpngldaaGreatDoor

theorem nodup_le : ∀ (n : Nat) (l : List Nat), l.Nodup → (∀ x ∈ l, x < n) → l.length ≤ n
  | 0, [], _, _ => Nat.le_refl _
  | 0, x :: l, _, h => absurd (h x (List.mem_cons_self ..)) (Nat.not_lt_zero _)
  | n + 1, l, hd, h => by
    have h1 : (l.erase n).length ≤ n := nodup_le n (l.erase n) (hd.erase n) (fun x hx => by
      have h2 := (List.Nodup.mem_erase_iff hd).1 hx
      have h3 := h x h2.2
      omega)
    have h4 := List.length_erase (l := l) (a := n)
    split at h4 <;> omega

def keysS (R : List (St × Step)) : List St := R.map (·.1)
def codeS (x : St) : Nat := ((((x.a0.toNat * 8 + x.a1.toNat) * 8 + x.a2.toNat) * 4 + x.f0.toNat) * 4 + x.f1.toNat) * 4 + x.f2.toNat

theorem at_small {M : Mach} (G : M.Good) {x : St} (h : M.At x) : ∀ g, g < 3 → 0 ≤ x.a g ∧ x.a g < 8 ∧ 0 ≤ x.f g ∧ x.f g < 4 := by
  intro g hg
  by_cases hn : g < M.n
  · have h1 := h.a g hn
    have h2 := h.f g hn
    have h3 := G.r8 g hn
    have h4 := G.tries g (x.a g).toNat hn (by omega)
    omega
  · have h1 := h.a0 g (by omega) hg
    have h2 := h.f0 g (by omega) hg
    omega
theorem tn4 {a : Int} (h : 0 ≤ a ∧ a < 4) : a.toNat < 4 := by omega
theorem tn8 {a : Int} {p : Prop} (h : 0 ≤ a ∧ a < 8 ∧ p) : a.toNat < 8 := by have := h.2.1; have := h.1; omega
theorem tn_inj {a b : Int} (ha : 0 ≤ a) (hb : 0 ≤ b) (h : a.toNat = b.toNat) : a = b := by omega
theorem pair8 {a b c d : Nat} (hc : c < 8) (hd : d < 8) (h : a * 8 + c = b * 8 + d) : a = b ∧ c = d := by omega
theorem pair4 {a b c d : Nat} (hc : c < 4) (hd : d < 4) (h : a * 4 + c = b * 4 + d) : a = b ∧ c = d := by omega
theorem lt8 {a c m : Nat} (ha : a < m) (hc : c < 8) : a * 8 + c < m * 8 := by omega
theorem lt4 {a c m : Nat} (ha : a < m) (hc : c < 4) : a * 4 + c < m * 4 := by omega
theorem code_lt {M : Mach} (G : M.Good) {x : St} (h : M.At x) : codeS x < 32768 := by
  have h0 := at_small G h 0 (by omega)
  have h1 := at_small G h 1 (by omega)
  have h2 := at_small G h 2 (by omega)
  simp only [St.a, St.f] at h0 h1 h2
  have e0 : x.a0.toNat < 8 := by omega
  have e1 := lt8 e0 (show x.a1.toNat < 8 by omega)
  have e2 := lt8 e1 (show x.a2.toNat < 8 by omega)
  have e3 := lt4 e2 (show x.f0.toNat < 4 by omega)
  have e4 := lt4 e3 (show x.f1.toNat < 4 by omega)
  have e5 := lt4 e4 (show x.f2.toNat < 4 by omega)
  exact Nat.lt_of_lt_of_le e5 (by decide)
theorem code_inj {M : Mach} (G : M.Good) {x y : St} (hx : M.At x) (hy : M.At y) (e : codeS x = codeS y) : x = y := by
  have h0 := at_small G hx 0 (by omega)
  have h1 := at_small G hx 1 (by omega)
  have h2 := at_small G hx 2 (by omega)
  have k0 := at_small G hy 0 (by omega)
  have k1 := at_small G hy 1 (by omega)
  have k2 := at_small G hy 2 (by omega)
  simp only [St.a, St.f] at h0 h1 h2 k0 k1 k2
  unfold codeS at e
  obtain ⟨e, g5⟩ := pair4 (tn4 h2.2.2) (tn4 k2.2.2) e
  obtain ⟨e, g4⟩ := pair4 (tn4 h1.2.2) (tn4 k1.2.2) e
  obtain ⟨e, g3⟩ := pair4 (tn4 h0.2.2) (tn4 k0.2.2) e
  obtain ⟨e, g2⟩ := pair8 (tn8 h2) (tn8 k2) e
  obtain ⟨g0, g1⟩ := pair8 (tn8 h1) (tn8 k1) e
  have e0 := tn_inj h0.1 k0.1 g0
  have e1 := tn_inj h1.1 k1.1 g1
  have e2 := tn_inj h2.1 k2.1 g2
  have e3 := tn_inj h0.2.2.1 k0.2.2.1 g3
  have e4 := tn_inj h1.2.2.1 k1.2.2.1 g4
  have e5 := tn_inj h2.2.2.1 k2.2.2.1 g5
  cases x; cases y
  simp only at e0 e1 e2 e3 e4 e5
  subst e0; subst e1; subst e2; subst e3; subst e4; subst e5
  rfl

theorem get_none {R : List (St × Step)} {x : St} : Tab.get R x = none ↔ x ∉ keysS R := by
  unfold Tab.get keysS
  rw [Option.map_eq_none_iff, List.find?_eq_none]
  constructor
  · intro h hm
    obtain ⟨p, hp, e⟩ := List.mem_map.1 hm
    exact h p hp (by simpa using e)
  · intro h p hp e
    exact h (List.mem_map.2 ⟨p, hp, by simpa using e⟩)
theorem get_append {R : List (St × Step)} {x y : St} {s : Step} (hy : y ∉ keysS R) : Tab.get (R ++ [(y, s)]) x = if x = y then some s else Tab.get R x := by
  unfold Tab.get
  rw [List.find?_append]
  by_cases hx : x = y
  · subst hx
    have : R.find? (fun p => decide (p.1 = x)) = none := by
      have := get_none.2 hy
      unfold Tab.get at this
      exact Option.map_eq_none_iff.1 this
    rw [this]
    simp
  · rw [if_neg hx]
    have hyx : ¬ y = x := fun e => hx e.symm
    cases R.find? (fun p => decide (p.1 = x)) <;> simp [hyx]
theorem get_at {R : List (St × Step)} (hd : (keysS R).Nodup) {j : Nat} (hj : j < R.length) : Tab.get R R[j].1 = some R[j].2 := by
  unfold Tab.get
  have : R.find? (fun p => decide (p.1 = R[j].1)) = some R[j] := by
    rw [List.find?_eq_some_iff_getElem]
    refine ⟨by simp, j, hj, rfl, fun i hi => ?_⟩
    have hi2 : i < R.length := by omega
    have := List.pairwise_iff_getElem.1 hd i j (by unfold keysS; simpa using hi2) (by unfold keysS; simpa using hj) hi
    simp only [Bool.not_eq_true', decide_eq_false_iff_not]
    intro e
    exact this (by unfold keysS; simpa using e)
  rw [this]; rfl

/-- what the search keeps: i states have been looked at -/
structure Inv (M : Mach) (al : Ev → Bool) (fd : St → Bool) (x0 : St) (R : List (St × Step)) (i : Nat) : Prop where
  nd : (keysS R).Nodup
  at_ : ∀ x ∈ keysS R, M.At x
  h0 : R[0]? = some (x0, ⟨St.zero, ⟨0, 0⟩, true⟩)
  src : ∀ j p, 0 < j → R[j]? = some p → ∃ k q, k < j ∧ k < i + 1 ∧ R[k]? = some q ∧ p.2.src = q.1 ∧ p.2.first = false ∧ p.1 = moveS M q.1 p.2.ev ∧ okEv M p.2.ev = true ∧ al p.2.ev = true
  done : ∀ j p, j < i → R[j]? = some p → fd p.1 = false ∧ ∀ v, okEv M v = true → al v = true → moveS M p.1 v ∈ keysS R

theorem inv_bound {M : Mach} (G : M.Good) {al : Ev → Bool} {fd : St → Bool} {x0 : St} {R : List (St × Step)} {i : Nat} (h : Inv M al fd x0 R i) : R.length ≤ 32768 := by
  have h1 : ((keysS R).map codeS).Nodup := by
    unfold List.Nodup
    rw [List.pairwise_map]
    refine List.Pairwise.imp_of_mem ?_ h.nd
    intro a b ha hb hne e
    exact hne (code_inj G (h.at_ a ha) (h.at_ b hb) e)
  have := nodup_le 32768 _ h1 (fun n hn => by
    obtain ⟨x, hx, rfl⟩ := List.mem_map.1 hn
    exact code_lt G (h.at_ x hx))
  simpa [keysS] using this
theorem mem_evs {n : Nat} {v : Ev} : v ∈ evs n ↔ (0 ≤ v.g ∧ v.g < n ∧ 0 ≤ v.k ∧ v.k ≤ 2) := by
  unfold evs
  rw [List.mem_flatMap]
  constructor
  · rintro ⟨g, hg, hv⟩
    have := List.mem_range.1 hg
    simp only [List.mem_cons, List.not_mem_nil, or_false] at hv
    rcases hv with rfl | rfl | rfl <;> simp <;> omega
  · rintro ⟨h1, h2, h3, h4⟩
    refine ⟨v.g.toNat, List.mem_range.2 (by omega), ?_⟩
    obtain ⟨g, k⟩ := v
    simp only at h1 h2 h3 h4 ⊢
    have e1 : ((g.toNat : Nat) : Int) = g := by omega
    have e2 : k = 0 ∨ k = 1 ∨ k = 2 := by omega
    rw [e1]
    rcases e2 with rfl | rfl | rfl <;> simp
theorem mem_evs_ok {M : Mach} {v : Ev} : v ∈ evs M.n ↔ okEv M v = true := by rw [mem_evs, okEv_iff]

/-- a state is looked at: its events so far -/
structure Mid (M : Mach) (al : Ev → Bool) (fd : St → Bool) (x0 : St) (now : St) (R : List (St × Step)) (i : Nat) (vs : List Ev) : Prop where
  inv : Inv M al fd x0 R i
  here : ∃ s, R[i]? = some (now, s)
  seen : ∀ v ∈ vs, al v = true → moveS M now v ∈ keysS R

theorem mid_step {M : Mach} (G : M.Good) {al : Ev → Bool} {fd : St → Bool} {x0 now : St} {R : List (St × Step)} {i : Nat} {vs : List Ev} {Q : List St} (h : Mid M al fd x0 now R i vs) {v : Ev} (hv : okEv M v = true)
    (hQ : (now :: Q) = (keysS R).drop i) : Mid M al fd x0 now (addS M al now (R, Q) v).1 i (vs ++ [v]) ∧ (now :: (addS M al now (R, Q) v).2) = (keysS (addS M al now (R, Q) v).1).drop i := by
  obtain ⟨s, hs⟩ := h.here
  have hil : i < R.length := (List.getElem?_eq_some_iff.1 hs).1
  have hnowm : now ∈ keysS R := List.mem_map.2 ⟨_, List.mem_of_getElem? hs, rfl⟩
  unfold addS
  dsimp only
  by_cases hc : ((Tab.get R (moveS M now v)).isNone && al v) = true
  · rw [if_pos hc]
    rw [Bool.and_eq_true] at hc
    dsimp only
    have hn : moveS M now v ∉ keysS R := get_none.1 (Option.isNone_iff_eq_none.1 hc.1)
    have hk : keysS (R ++ [(moveS M now v, ⟨now, v, false⟩)]) = keysS R ++ [moveS M now v] := by unfold keysS; simp
    refine ⟨⟨⟨?_, ?_, ?_, ?_, ?_⟩, ⟨s, ?_⟩, ?_⟩, ?_⟩
    · rw [hk]
      rw [List.nodup_append]
      refine ⟨h.inv.nd, by simp, ?_⟩
      intro a ha b hb e
      simp at hb
      subst hb; subst e
      exact hn ha
    · intro x hx
      rw [hk] at hx
      rcases List.mem_append.1 hx with hx | hx
      · exact h.inv.at_ x hx
      · simp at hx; subst hx; exact move_at G (h.inv.at_ now hnowm) hv
    · rw [List.getElem?_append_left (by omega)]; exact h.inv.h0
    · intro j p hj hp
      by_cases hjl : j < R.length
      · rw [List.getElem?_append_left hjl] at hp
        obtain ⟨k, q, h1, h2, h3, h4⟩ := h.inv.src j p hj hp
        exact ⟨k, q, h1, h2, by rw [List.getElem?_append_left (by omega)]; exact h3, h4⟩
      · have hj2 := (List.getElem?_eq_some_iff.1 hp).1
        simp at hj2
        have : j = R.length := by omega
        subst this
        simp at hp
        subst hp
        exact ⟨i, (now, s), hil, by omega, by rw [List.getElem?_append_left hil]; exact hs, rfl, rfl, rfl, hv, hc.2⟩
    · intro j p hj hp
      rw [List.getElem?_append_left (by omega)] at hp
      obtain ⟨h1, h2⟩ := h.inv.done j p hj hp
      exact ⟨h1, fun v hv ha => by rw [hk]; exact List.mem_append_left _ (h2 v hv ha)⟩
    · rw [List.getElem?_append_left hil]; exact hs
    · intro u hu ha
      rw [hk]
      rcases List.mem_append.1 hu with hu | hu
      · exact List.mem_append_left _ (h.seen u hu ha)
      · simp at hu; subst hu; exact List.mem_append_right _ (List.mem_singleton.2 rfl)
    · rw [hk, List.drop_append_of_le_length (by unfold keysS; simp; omega), ← hQ]; rfl
  · rw [if_neg hc]
    refine ⟨⟨h.inv, h.here, ?_⟩, hQ⟩
    intro u hu ha
    rcases List.mem_append.1 hu with hu | hu
    · exact h.seen u hu ha
    · simp at hu; subst hu
      apply Classical.byContradiction
      intro hm
      apply hc
      rw [get_none.2 hm, ha]; rfl

theorem mid_all {M : Mach} (G : M.Good) {al : Ev → Bool} {fd : St → Bool} {x0 now : St} {i : Nat} : ∀ (us vs : List Ev) (R : List (St × Step)) (Q : List St), (∀ v ∈ us, okEv M v = true) → Mid M al fd x0 now R i vs → (now :: Q) = (keysS R).drop i →
    Mid M al fd x0 now (us.foldl (addS M al now) (R, Q)).1 i (vs ++ us) ∧ (now :: (us.foldl (addS M al now) (R, Q)).2) = (keysS (us.foldl (addS M al now) (R, Q)).1).drop i
  | [], vs, R, Q, _, h, hQ => by simpa using ⟨h, hQ⟩
  | u :: us, vs, R, Q, hu, h, hQ => by
    obtain ⟨h1, h2⟩ := mid_step G h (hu u (List.mem_cons_self ..)) hQ
    have := mid_all G us (vs ++ [u]) _ _ (fun v hv => hu v (List.mem_cons_of_mem _ hv)) h1 h2
    rw [List.append_assoc] at this
    exact this

/-- a state has been looked at -/
theorem inv_grow {M : Mach} (G : M.Good) {al : Ev → Bool} {fd : St → Bool} {x0 now : St} {R : List (St × Step)} {i : Nat} {Q : List St} (h : Inv M al fd x0 R i) (hQ : (now :: Q) = (keysS R).drop i) (hf : fd now = false) :
    Inv M al fd x0 (growS M al now (R, Q)).1 (i + 1) ∧ (growS M al now (R, Q)).2 = (keysS (growS M al now (R, Q)).1).drop (i + 1) := by
  have hi : i < (keysS R).length := by
    rcases Nat.lt_or_ge i (keysS R).length with h | h
    · exact h
    · rw [List.drop_eq_nil_of_le h] at hQ; cases hQ
  have hil : i < R.length := by simpa [keysS] using hi
  have hnow : (keysS R)[i] = now := by
    rw [List.drop_eq_getElem_cons hi] at hQ
    exact (List.cons.inj hQ).1.symm
  have hs : R[i]? = some (now, R[i].2) := by
    rw [List.getElem?_eq_getElem hil]
    have : R[i].1 = now := by rw [← hnow]; simp [keysS]
    rw [← this]
  obtain ⟨h1, h2⟩ := mid_all G (evs M.n) [] R Q (fun v hv => mem_evs_ok.1 hv) ⟨h, ⟨_, hs⟩, fun v hv => absurd hv (List.not_mem_nil)⟩ hQ
  rw [List.nil_append] at h1
  unfold growS
  obtain ⟨s', hs'⟩ := h1.here
  refine ⟨⟨h1.inv.nd, h1.inv.at_, h1.inv.h0, fun j p hj hp => ?_, fun j p hj hp => ?_⟩, ?_⟩
  · obtain ⟨k, q, a, b, c⟩ := h1.inv.src j p hj hp
    exact ⟨k, q, a, by omega, c⟩
  · by_cases hji : j < i
    · exact h1.inv.done j p hji hp
    · have : j = i := by omega
      subst this
      rw [hs'] at hp
      cases hp
      exact ⟨hf, fun v hv ha => h1.seen v (mem_evs_ok.2 hv) ha⟩
  · have := congrArg List.tail h2
    rw [List.tail_drop] at this
    exact this
theorem add_sum (M : Mach) (al : Ev → Bool) (now : St) (s : List (St × Step) × List St) (v : Ev) : (addS M al now s v).1.length + s.2.length = s.1.length + (addS M al now s v).2.length := by
  unfold addS; split <;> simp <;> omega
theorem fold_sum (M : Mach) (al : Ev → Bool) (now : St) : ∀ (us : List Ev) (s : List (St × Step) × List St), (us.foldl (addS M al now) s).1.length + s.2.length = s.1.length + (us.foldl (addS M al now) s).2.length
  | [], _ => rfl
  | u :: us, s => by
    have h1 := add_sum M al now s u
    have h2 := fold_sum M al now us (addS M al now s u)
    simp only [List.foldl_cons]
    omega
theorem inv_start {M : Mach} {al : Ev → Bool} {fd : St → Bool} {x : St} (hx : M.At x) : Inv M al fd x (tab0 x) 0 := by
  refine ⟨by unfold keysS tab0; simp, by intro y hy; unfold keysS tab0 at hy; simp at hy; subst hy; exact hx, rfl, fun j p hj hp => ?_, fun j p hj _ => absurd hj (Nat.not_lt_zero _)⟩
  have := (List.getElem?_eq_some_iff.1 hp).1
  unfold tab0 at this
  simp at this
  omega

/-- what a search gives -/
structure Found (M : Mach) (al : Ev → Bool) (fd : St → Bool) (x0 : St) (R : List (St × Step)) (y : St) : Prop where
  ex : ∃ i s, Inv M al fd x0 R i ∧ R[i]? = some (y, s)
  fd : fd y = true
structure Lost (M : Mach) (al : Ev → Bool) (fd : St → Bool) (x0 : St) (R : List (St × Step)) : Prop where
  inv : Inv M al fd x0 R R.length

theorem bfs_spec {M : Mach} (G : M.Good) {al : Ev → Bool} {fd : St → Bool} {x0 : St} : ∀ (m : Nat) (R : List (St × Step)) (Q : List St) (i : Nat), Inv M al fd x0 R i → Q = (keysS R).drop i → 32769 - i ≤ m →
    (match bfs M al fd m R Q with | (some y, R') => Found M al fd x0 R' y | (none, R') => Lost M al fd x0 R')
  | 0, R, Q, i, h, hQ, hm => by
    have := inv_bound G h
    have hl : (keysS R).length = R.length := by simp [keysS]
    rw [bfs]
    have hi : Inv M al fd x0 R R.length := ⟨h.nd, h.at_, h.h0, fun j p hj hp => by
      obtain ⟨k, q, a, b, c⟩ := h.src j p hj hp
      have := (List.getElem?_eq_some_iff.1 c.1).1
      exact ⟨k, q, a, by omega, c⟩, fun j p hj hp => h.done j p (by omega) hp⟩
    exact ⟨hi⟩
  | m + 1, R, [], i, h, hQ, hm => by
    rw [bfs]
    have hl : (keysS R).length = R.length := by simp [keysS]
    have hle : (keysS R).length ≤ i := by
      have := congrArg List.length hQ
      rw [List.length_drop] at this
      simp at this
      omega
    have hi : Inv M al fd x0 R R.length := ⟨h.nd, h.at_, h.h0, fun j p hj hp => by
      obtain ⟨k, q, a, b, c⟩ := h.src j p hj hp
      have := (List.getElem?_eq_some_iff.1 c.1).1
      exact ⟨k, q, a, by omega, c⟩, fun j p hj hp => h.done j p (by omega) hp⟩
    exact ⟨hi⟩
  | m + 1, R, now :: q, i, h, hQ, hm => by
    rw [bfs]
    cases hf : fd now
    · rw [if_neg Bool.false_ne_true]
      obtain ⟨h1, h2⟩ := inv_grow G h hQ hf
      exact bfs_spec G m _ _ (i + 1) h1 h2 (by omega)
    · rw [if_pos rfl]
      have hi : i < (keysS R).length := by
        rcases Nat.lt_or_ge i (keysS R).length with h | h
        · exact h
        · rw [List.drop_eq_nil_of_le h] at hQ; cases hQ
      have hil : i < R.length := by simpa [keysS] using hi
      have hnow : (keysS R)[i] = now := by
        rw [List.drop_eq_getElem_cons hi] at hQ
        exact (List.cons.inj hQ).1.symm
      have hs : R[i]? = some (now, R[i].2) := by
        rw [List.getElem?_eq_getElem hil]
        have : R[i].1 = now := by rw [← hnow]; simp [keysS]
        rw [← this]
      exact ⟨⟨i, _, h, hs⟩, hf⟩
theorem search_spec {M : Mach} (G : M.Good) {al : Ev → Bool} {fd : St → Bool} {x : St} (hx : M.At x) :
    (match searchS M x al fd with | (some y, R') => Found M al fd x R' y | (none, R') => Lost M al fd x R') :=
  bfs_spec G 65537 (tab0 x) [x] 0 (inv_start hx) rfl (by omega)

/-! ### the way back -/
def runS (M : Mach) (x : St) (l : List Ev) : St := l.foldl (moveS M) x
theorem back_more {M : Mach} {al : Ev → Bool} {fd : St → Bool} {x0 : St} {R : List (St × Step)} {i : Nat} (h : Inv M al fd x0 R i) : ∀ (j d : Nat) (p : St × Step), R[j]? = some p → backS R (j + 1 + d) p.1 = backS R (j + 1) p.1 := by
  intro j
  induction j using Nat.strongRecOn with
  | ind j ih =>
    intro d p hp
    obtain ⟨hj, rfl⟩ := List.getElem?_eq_some_iff.1 hp
    rw [show j + 1 + d = (j + d) + 1 from by omega, backS, backS, get_at h.nd hj]
    simp only
    by_cases hj0 : j = 0
    · subst hj0
      have := h.h0
      rw [List.getElem?_eq_getElem hj] at this
      have e := Option.some.inj this
      rw [e]; rfl
    · obtain ⟨k, q, hk, _, hq, hsrc, hfst, _⟩ := h.src j _ (by omega) hp
      rw [hfst, hsrc]
      simp only [Bool.false_eq_true, if_false]
      congr 1
      have e1 := ih k hk (j - 1 - k + d) q hq
      have e2 := ih k hk (j - 1 - k) q hq
      rw [show k + 1 + (j - 1 - k + d) = j + d from by omega] at e1
      rw [show k + 1 + (j - 1 - k) = j from by omega] at e2
      rw [e1, e2]
theorem back_path {M : Mach} {al : Ev → Bool} {fd : St → Bool} {x0 : St} {R : List (St × Step)} {i : Nat} (h : Inv M al fd x0 R i) : ∀ (j : Nat) (p : St × Step), R[j]? = some p →
    runS M x0 (backS R (j + 1) p.1).reverse = p.1 ∧ (∀ k, k < (backS R (j + 1) p.1).length → ∃ j' p', j' < j ∧ R[j']? = some p' ∧ runS M x0 ((backS R (j + 1) p.1).reverse.take k) = p'.1) ∧ ∀ v ∈ backS R (j + 1) p.1, okEv M v = true ∧ al v = true := by
  intro j
  induction j using Nat.strongRecOn with
  | ind j ih =>
    intro p hp
    obtain ⟨hj, rfl⟩ := List.getElem?_eq_some_iff.1 hp
    rw [backS, get_at h.nd hj]
    simp only
    by_cases hj0 : j = 0
    · subst hj0
      have := h.h0
      rw [List.getElem?_eq_getElem hj] at this
      have e := Option.some.inj this
      rw [e]
      refine ⟨rfl, fun k hk => ?_, fun v hv => ?_⟩
      · simp at hk
      · simp at hv
    · obtain ⟨k, q, hk, _, hq, hsrc, hfst, hmv, hok, hal⟩ := h.src j _ (by omega) hp
      rw [hfst, hsrc]
      simp only [Bool.false_eq_true, if_false]
      have e2 := back_more h k (j - 1 - k) q hq
      rw [show k + 1 + (j - 1 - k) = j from by omega] at e2
      rw [e2]
      obtain ⟨a1, a2, a3⟩ := ih k hk q hq
      generalize backS R (k + 1) q.1 = B at *
      refine ⟨?_, fun m hm => ?_, fun v hv => ?_⟩
      · rw [List.reverse_cons, runS, List.foldl_append]
        show moveS M (runS M x0 B.reverse) _ = _
        rw [a1, ← hmv]
      · rw [List.reverse_cons]
        simp only [List.length_cons] at hm
        rw [List.take_append_of_le_length (by simp; omega)]
        by_cases hmB : m < B.length
        · obtain ⟨j', p', b1, b2, b3⟩ := a2 m hmB
          exact ⟨j', p', by omega, b2, b3⟩
        · have : m = B.reverse.length := by simp; omega
          subst this
          rw [List.take_length]
          exact ⟨k, q, hk, hq, a1⟩
      · rcases List.mem_cons.1 hv with rfl | hv
        · exact ⟨hok, hal⟩
        · exact a3 v hv
end Go.Proofs.YtnkgbocdpngldaaGreatDoor

namespace Go.Proofs.YtnkgbocdpngldaaGreatDoor

def wayS (R : List (St × Step)) (y : St) : List Ev := (backS R R.length y).reverse
theorem found_way {M : Mach} {al : Ev → Bool} {fd : St → Bool} {x0 : St} {R : List (St × Step)} {y : St} (h : Found M al fd x0 R y) :
    runS M x0 (wayS R y) = y ∧ (∀ k, k < (wayS R y).length → fd (runS M x0 ((wayS R y).take k)) = false) ∧ ∀ v ∈ wayS R y, okEv M v = true ∧ al v = true := by
  obtain ⟨i, s, hI, hi⟩ := h.ex
  have hil := (List.getElem?_eq_some_iff.1 hi).1
  obtain ⟨a1, a2, a3⟩ := back_path hI i (y, s) hi
  have e := back_more hI i (R.length - (i + 1)) (y, s) hi
  rw [show i + 1 + (R.length - (i + 1)) = R.length from by omega] at e
  unfold wayS
  simp only at e a1 a2 a3
  rw [e]
  refine ⟨a1, fun k hk => ?_, fun v hv => a3 v (List.mem_reverse.1 hv)⟩
  rw [List.length_reverse] at hk
  obtain ⟨j', p', h1, h2, h3⟩ := a2 k hk
  rw [h3]
  exact (hI.done j' p' h1 h2).1
theorem lost_run {M : Mach} {al : Ev → Bool} {fd : St → Bool} {x0 : St} {R : List (St × Step)} (h : Lost M al fd x0 R) : ∀ (l : List Ev), (∀ v ∈ l, okEv M v = true ∧ al v = true) → ∀ (x : St), x ∈ keysS R → runS M x l ∈ keysS R ∧ fd (runS M x l) = false := by
  have hf : ∀ x, x ∈ keysS R → fd x = false ∧ ∀ v, okEv M v = true → al v = true → moveS M x v ∈ keysS R := by
    intro x hx
    obtain ⟨p, hp, rfl⟩ := List.mem_map.1 hx
    obtain ⟨j, hj, rfl⟩ := List.mem_iff_getElem.1 hp
    exact h.inv.done j _ hj (List.getElem?_eq_getElem hj)
  intro l
  induction l with
  | nil => intro _ x hx; exact ⟨hx, (hf x hx).1⟩
  | cons v l ih =>
    intro hv x hx
    have h1 := hv v (List.mem_cons_self ..)
    exact ih (fun u hu => hv u (List.mem_cons_of_mem _ hu)) (moveS M x v) ((hf x hx).2 v h1.1 h1.2)
theorem lost_zero {M : Mach} {al : Ev → Bool} {fd : St → Bool} {x0 : St} {R : List (St × Step)} {i : Nat} (h : Inv M al fd x0 R i) : x0 ∈ keysS R :=
  List.mem_map.2 ⟨_, List.mem_of_getElem? h.h0, rfl⟩

/-- the step of a state that was reached: one goes back to an earlier state -/
theorem lead_step {M : Mach} {al : Ev → Bool} {fd : St → Bool} {x0 : St} {R : List (St × Step)} {i : Nat} (h : Inv M al fd x0 R i) {j : Nat} {p : St × Step} (hp : R[j]? = some p) (hf : p.2.first = false) :
    ∃ k q, k < j ∧ R[k]? = some q ∧ p.2.src = q.1 ∧ Tab.get R q.1 = some q.2 ∧ backS R (j + 1) p.1 = p.2.ev :: backS R (k + 1) q.1 := by
  obtain ⟨hj, rfl⟩ := List.getElem?_eq_some_iff.1 hp
  by_cases hj0 : j = 0
  · subst hj0
    have := h.h0
    rw [List.getElem?_eq_getElem hj] at this
    have e := Option.some.inj this
    rw [e] at hf
    cases hf
  · obtain ⟨k, q, hk, _, hq, hsrc, _⟩ := h.src j _ (by omega) hp
    obtain ⟨hkl, rfl⟩ := List.getElem?_eq_some_iff.1 hq
    refine ⟨k, _, hk, hq, hsrc, get_at h.nd hkl, ?_⟩
    rw [backS, get_at h.nd hj]
    simp only
    rw [hf, hsrc]
    simp only [Bool.false_eq_true, if_false]
    have e2 := back_more h k (j - 1 - k) _ hq
    rw [show k + 1 + (j - 1 - k) = j from by omega] at e2
    rw [e2]
theorem lead_end {M : Mach} {al : Ev → Bool} {fd : St → Bool} {x0 : St} {R : List (St × Step)} {i : Nat} (h : Inv M al fd x0 R i) {j : Nat} {p : St × Step} (hp : R[j]? = some p) (hf : p.2.first = true) : backS R (j + 1) p.1 = [] := by
  obtain ⟨hj, rfl⟩ := List.getElem?_eq_some_iff.1 hp
  rw [backS, get_at h.nd hj]
  simp only
  rw [hf]; rfl
theorem lead_all {M : Mach} {al : Ev → Bool} {fd : St → Bool} {x0 : St} {R : List (St × Step)} {i : Nat} (h : Inv M al fd x0 R i) {j : Nat} {p : St × Step} (hp : R[j]? = some p) : backS R R.length p.1 = backS R (j + 1) p.1 := by
  have hj := (List.getElem?_eq_some_iff.1 hp).1
  have := back_more h j (R.length - (j + 1)) p hp
  rw [show j + 1 + (R.length - (j + 1)) = R.length from by omega] at this
  exact this

/-- the states of a run, the one at the beginning first -/
def statesS (M : Mach) : St → List Ev → List St
  | x, [] => [x]
  | x, v :: l => x :: statesS M (moveS M x v) l
theorem states_length (M : Mach) : ∀ (l : List Ev) (x : St), (statesS M x l).length = l.length + 1
  | [], _ => rfl
  | v :: l, x => by simp [statesS, states_length M l]
theorem states_get (M : Mach) : ∀ (l : List Ev) (x : St) (i : Nat), i ≤ l.length → (statesS M x l)[i]? = some (runS M x (l.take i))
  | [], x, i, h => by
    have : i = 0 := by simpa using h
    subst this; rfl
  | v :: l, x, 0, _ => rfl
  | v :: l, x, i + 1, h => by
    show (statesS M (moveS M x v) l)[i]? = _
    rw [states_get M l _ i (by simpa using h)]
    rfl
theorem states_snoc (M : Mach) : ∀ (l : List Ev) (x : St) (v : Ev), statesS M x (l ++ [v]) = statesS M x l ++ [moveS M (runS M x l) v]
  | [], _, _ => rfl
  | u :: l, x, v => by
    show x :: statesS M (moveS M x u) (l ++ [v]) = x :: statesS M (moveS M x u) l ++ _
    rw [states_snoc M l]; rfl
theorem run_at {M : Mach} (G : M.Good) : ∀ (l : List Ev) (x : St), M.At x → (∀ v ∈ l, okEv M v = true) → M.At (runS M x l)
  | [], _, h, _ => h
  | v :: l, _, h, hv => run_at G l _ (move_at G h (hv v (List.mem_cons_self ..))) (fun u hu => hv u (List.mem_cons_of_mem _ hu))
end Go.Proofs.YtnkgbocdpngldaaGreatDoor

namespace Go.Proofs.YtnkgbocdpngldaaGreatDoor

/-- is a goal reached by fewer than so many steps? -/
def endsM (M : Mach) (g : Nat) : Nat → Nat → Bool
  | 0, _ => false
  | m + 1, k => if M.next g k < 0 then true else endsM M g m (M.next g k).toNat
theorem endsM_more {M : Mach} {g : Nat} : ∀ (m d k : Nat), endsM M g m k = true → endsM M g (m + d) k = true
  | 0, _, _, h => by cases h
  | m + 1, d, k, h => by
    rw [show m + 1 + d = (m + d) + 1 from by omega, endsM]
    rw [endsM] at h
    split
    · rfl
    · rename_i hn
      rw [if_neg hn] at h
      exact endsM_more m d _ h

/-- the time to a goal: from a rung, after failed tries, with so many events that may go wrong; the first number bounds how deep one looks -/
def worstF (M : Mach) (g : Nat) : Nat → Nat → Nat → Nat → Int
  | 0, _, _, _ => 0
  | m + 1, k, f, left =>
    if M.next g k < 0 then 0
    else
      let a := worstF M g m (M.next g k).toNat 0 left
      let b := match left with
        | 0 => a
        | l + 1 => max (max a (worstF M g m 0 0 l)) (if (f : Int) = M.tries g k - 1 then worstF M g m (M.back g k).toNat 0 l else worstF M g m k (f + 1) l)
      b + M.mins g k

/-- a machine whose guard g always leads to a goal -/
structure Leads (M : Mach) (g : Nat) : Prop where
  good : M.Good
  lt : g < M.n
  ends : ∀ k, k < M.rungs g → endsM M g (M.rungs g) k = true

theorem Leads.eight {M : Mach} {g : Nat} (L : Leads M g) {k : Nat} (hk : k < M.rungs g) : endsM M g 8 k = true := by
  have h8 := L.good.r8 g L.lt
  have := endsM_more (M.rungs g) (8 - M.rungs g) k (L.ends k hk)
  rw [show M.rungs g + (8 - M.rungs g) = 8 from by omega] at this
  exact this
theorem Leads.back {M : Mach} {g : Nat} (L : Leads M g) {k : Nat} (hk : k < M.rungs g) : (M.back g k).toNat < M.rungs g := by
  by_cases h0 : k = 0
  · subst h0; rw [L.good.backz g L.lt]; exact hk
  · have := L.good.back g k L.lt hk (by omega)
    have := L.good.back0 g k L.lt hk
    omega

theorem worst_more {M : Mach} {g : Nat} (L : Leads M g) : ∀ (m e k f left : Nat), k < M.rungs g → endsM M g e k = true → left * 9 + e ≤ m → worstF M g (m + 1) k f left = worstF M g m k f left
  | 0, e, k, f, left, hk, he, hm => by
    have : e = 0 := by omega
    subst this; cases he
  | m + 1, 0, k, f, left, hk, he, hm => by cases he
  | m + 1, e + 1, k, f, left, hk, he, hm => by
    rw [worstF]
    conv => rhs; rw [worstF]
    rw [endsM] at he
    by_cases hn : M.next g k < 0
    · rw [if_pos hn, if_pos hn]
    · rw [if_neg hn] at he
      rw [if_neg hn, if_neg hn]
      have hnx := L.good.next g k L.lt hk
      have h1 := worst_more L m e (M.next g k).toNat 0 left (by omega) he (by omega)
      simp only
      rw [h1]
      cases left with
      | zero => rfl
      | succ l =>
        have r0 := L.good.r0 g L.lt
        simp only
        rw [worst_more L m 8 0 0 l (by omega) (L.eight (by omega)) (by omega)]
        rw [worst_more L m 8 (M.back g k).toNat 0 l (L.back hk) (L.eight (L.back hk)) (by omega)]
        rw [worst_more L m 8 k (f + 1) l hk (L.eight hk) (by omega)]
theorem worst_enough {M : Mach} {g : Nat} (L : Leads M g) {e k f left : Nat} (hk : k < M.rungs g) (he : endsM M g e k = true) : ∀ (d m : Nat), left * 9 + e ≤ m → worstF M g (m + d) k f left = worstF M g m k f left
  | 0, _, _ => rfl
  | d + 1, m, hm => by rw [← Nat.add_assoc, worst_more L (m + d) e k f left hk he (by omega), worst_enough L hk he d m hm]
/-- the worst time -/
def worstS (M : Mach) (g k f left : Nat) : Int := worstF M g (left * 9 + 9) k f left
theorem worstS_goal {M : Mach} {g k f left : Nat} (h : M.next g k < 0) : worstS M g k f left = 0 := by
  unfold worstS; rw [worstF, if_pos h]
theorem worst_is {M : Mach} {g : Nat} (L : Leads M g) {k f left m : Nat} (hk : k < M.rungs g) (hm : left * 9 + 8 ≤ m) : worstF M g m k f left = worstS M g k f left := by
  unfold worstS
  have a := worst_enough L (f := f) (left := left) hk (L.eight hk) (m - (left * 9 + 8)) (left * 9 + 8) (Nat.le_refl _)
  have b := worst_enough L (f := f) (left := left) hk (L.eight hk) 1 (left * 9 + 8) (Nat.le_refl _)
  rw [show left * 9 + 8 + (m - (left * 9 + 8)) = m from by omega] at a
  rw [show left * 9 + 8 + 1 = left * 9 + 9 from by omega] at b
  rw [a, b]
theorem worstS_step {M : Mach} {g : Nat} (L : Leads M g) {k f left : Nat} (hk : k < M.rungs g) (h : 0 ≤ M.next g k) :
    worstS M g k f left = (match left with
      | 0 => worstS M g (M.next g k).toNat 0 0
      | l + 1 => max (max (worstS M g (M.next g k).toNat 0 (l + 1)) (worstS M g 0 0 l)) (if (f : Int) = M.tries g k - 1 then worstS M g (M.back g k).toNat 0 l else worstS M g k (f + 1) l)) + M.mins g k := by
  have hnx := L.good.next g k L.lt hk
  have r0 := L.good.r0 g L.lt
  conv => lhs; unfold worstS; rw [worstF, if_neg (by omega)]
  simp only
  rw [worst_is L (by omega) (by omega)]
  cases left with
  | zero => rfl
  | succ l =>
    simp only
    rw [worst_is L (k := 0) (by omega) (by omega), worst_is L (L.back hk) (by omega), worst_is L hk (by omega)]
theorem worstF_range {M : Mach} {g : Nat} (L : Leads M g) : ∀ (m k f left : Nat), k < M.rungs g → 0 ≤ worstF M g m k f left ∧ worstF M g m k f left ≤ 60 * (m : Int)
  | 0, _, _, _, _ => by simp [worstF]
  | m + 1, k, f, left, hk => by
    rw [worstF]
    split
    · omega
    · rename_i hn
      have hnx := L.good.next g k L.lt hk
      have hm := L.good.mins g k L.lt hk
      have r0 := L.good.r0 g L.lt
      have h1 := worstF_range L m (M.next g k).toNat 0 left (by omega)
      simp only
      cases left with
      | zero => simp only; omega
      | succ l =>
        have h2 := worstF_range L m 0 0 l (by omega)
        have h3 := worstF_range L m (M.back g k).toNat 0 l (L.back hk)
        have h4 := worstF_range L m k (f + 1) l hk
        simp only
        split <;> omega
theorem worstS_range {M : Mach} {g : Nat} (L : Leads M g) {k f left : Nat} (hk : k < M.rungs g) (hl : left ≤ 8) : 0 ≤ worstS M g k f left ∧ worstS M g k f left ≤ 5000 := by
  have := worstF_range L (left * 9 + 9) k f left hk
  unfold worstS
  omega
end Go.Proofs.YtnkgbocdpngldaaGreatDoor

namespace Go.Proofs.YtnkgbocdpngldaaGreatDoor

def HeldAll (M : Mach) (x : St) : Prop := ∀ g, g < M.n → heldS M x g = true
theorem held_congr {M : Mach} (G : M.Good) {x y : St} (hx : M.At x) {g : Nat} (hg : g < M.n) (h : ∀ k, k ≤ g → x.a k = y.a k) : heldS M x g = heldS M y g := by
  have ha := hx.a g hg
  unfold heldS
  rw [← h g (Nat.le_refl _)]
  rw [Bool.eq_iff_iff, List.all_eq_true, List.all_eq_true]
  constructor
  · intro hh z hz
    have := hh z hz
    have hlt := G.need g (x.a g).toNat hg (by omega) z hz
    rw [← h z.1 (by omega)]; exact this
  · intro hh z hz
    have := hh z hz
    have hlt := G.need g (x.a g).toNat hg (by omega) z hz
    rw [h z.1 (by omega)]; exact this
theorem fall_other {M : Mach} {g j : Nat} (hg : g < 3) (hj : j < 3) (hne : j ≠ g) : ∀ (m : Nat) (x : St), (fall M g m x).a j = x.a j
  | 0, _ => rfl
  | m + 1, x => by
    rw [fall]
    split
    · rfl
    · rw [fall_other hg hj hne m, St.a_go _ hg hj, if_neg hne]
theorem back_le {M : Mach} (G : M.Good) {g : Nat} (hg : g < M.n) {k : Nat} (hk : k < M.rungs g) : 0 ≤ M.back g k ∧ M.back g k ≤ k ∧ M.back g k < M.rungs g := by
  have h0 := G.back0 g k hg hk
  by_cases hz : k = 0
  · subst hz; rw [G.backz g hg]; omega
  · have := G.back g k hg hk (by omega); omega
theorem fall_holds {M : Mach} (G : M.Good) {g : Nat} (hg : g < M.n) : ∀ (m : Nat) (x : St), M.At x → (x.a g).toNat < m → heldS M (fall M g m x) g = true
  | 0, _, _, h => by omega
  | m + 1, x, hx, h => by
    rw [fall]
    split
    · assumption
    · rename_i hh
      have hh' : heldS M x g = false := by simpa using hh
      obtain ⟨h1, h2, h3, _⟩ := fallS_step G hg hx hh'
      have ha := hx.a g hg
      have hn3 := G.n3
      refine fall_holds G hg m _ (hx.go G hg h2 (by omega)) ?_
      rw [St.a_go _ (by omega) (by omega), if_pos rfl]
      omega
theorem fallS_holds {M : Mach} (G : M.Good) {g : Nat} (hg : g < M.n) {x : St} (hx : M.At x) : heldS M (fallS M g x) g = true := fall_holds G hg _ _ hx (Nat.lt_succ_self _)
theorem fall_le {M : Mach} (G : M.Good) {g : Nat} (hg : g < M.n) {j : Nat} (hj : j < 3) : ∀ (m : Nat) (x : St), M.At x → (fall M g m x).a j ≤ x.a j
  | 0, _, _ => Int.le_refl _
  | m + 1, x, hx => by
    have hn3 := G.n3
    by_cases hne : j = g
    · subst hne
      rw [fall]
      split
      · exact Int.le_refl _
      · have ha := hx.a j hg
        have hb := back_le G hg (k := (x.a j).toNat) (by omega)
        have := fall_le G hg hj m _ (hx.go G hg hb.1 hb.2.2)
        rw [St.a_go _ hj hj, if_pos rfl] at this
        omega
    · rw [fall_other (by omega) hj hne]; exact Int.le_refl _
theorem falls_le {M : Mach} (G : M.Good) {j : Nat} (hj : j < 3) : ∀ (m i : Nat) (x : St), i + m ≤ M.n → M.At x → (falls M m i x).a j ≤ x.a j
  | 0, _, _, _, _ => Int.le_refl _
  | m + 1, i, x, hi, hx => by
    have h1 := falls_le G hj m (i + 1) (fallS M i x) (by omega) (fall_at G (by omega) _ _ hx)
    have h2 := fall_le G (g := i) (by omega) hj ((x.a i).toNat + 1) x hx
    unfold fallS at h1
    rw [falls]
    unfold fallS
    omega
theorem falls_holds {M : Mach} (G : M.Good) : ∀ (m i : Nat) (x : St), i + m = M.n → M.At x → (∀ g, g < i → heldS M x g = true) → HeldAll M (falls M m i x)
  | 0, i, x, hi, hx, h => fun g hg => h g (by omega)
  | m + 1, i, x, hi, hx, h => by
    have hn3 := G.n3
    refine falls_holds G m (i + 1) (fallS M i x) (by omega) (fall_at G (by omega) _ _ hx) (fun g hg => ?_)
    by_cases hgi : g = i
    · subst hgi; exact fallS_holds G (by omega) hx
    · rw [← h g (by omega)]
      refine (held_congr G hx (by omega) (fun k hk => ?_)).symm
      unfold fallS
      rw [fall_other (by omega) (by omega) (by omega)]
theorem move_holds {M : Mach} (G : M.Good) {x : St} (h : M.At x) {v : Ev} (hv : okEv M v = true) : HeldAll M (moveS M x v) :=
  falls_holds G M.n 0 _ (by omega) (act_at G h hv) (fun g hg => by omega)
theorem act_le {M : Mach} (G : M.Good) {x : St} (h : M.At x) {v : Ev} (hv : okEv M v = true) {j : Nat} (hj : j < 3) (hc : ¬ (j = v.g.toNat ∧ v.k = 0)) : (actS M x v).a j ≤ x.a j := by
  obtain ⟨h1, h2, h3, h4⟩ := okEv_iff.1 hv
  have hg : v.g.toNat < M.n := by omega
  have ha := h.a _ hg
  have hn3 := G.n3
  have hb := back_le G hg (k := (x.a v.g.toNat).toNat) (by omega)
  unfold actS
  simp only
  split
  · rw [St.a_go _ (by omega) hj]
    split
    · rename_i e; subst e; omega
    · exact Int.le_refl _
  · split
    · rename_i hk
      rw [St.a_go _ (by omega) hj]
      split
      · rename_i e; exact absurd ⟨e, hk.1⟩ hc
      · exact Int.le_refl _
    · split
      · rw [St.a_go _ (by omega) hj]
        split
        · rename_i e; subst e; omega
        · exact Int.le_refl _
      · split
        · rw [St.a_fail _ (by omega)]; exact Int.le_refl _
        · exact Int.le_refl _
theorem move_le {M : Mach} (G : M.Good) {x : St} (h : M.At x) {v : Ev} (hv : okEv M v = true) {j : Nat} (hj : j < 3) (hc : ¬ (j = v.g.toNat ∧ v.k = 0)) : (moveS M x v).a j ≤ x.a j := by
  have h1 := falls_le G hj M.n 0 (actS M x v) (by omega) (act_at G h hv)
  have h2 := act_le G h hv hj hc
  unfold moveS
  omega
theorem zero_a (g : Nat) : St.zero.a g = 0 := by unfold St.a St.zero; split <;> rfl
theorem zero_held {M : Mach} (G : M.Good) : HeldAll M St.zero := by
  intro g hg
  unfold heldS
  rw [zero_a]
  rw [show (0 : Int).toNat = 0 from rfl, G.needz g hg]
  rfl
end Go.Proofs.YtnkgbocdpngldaaGreatDoor

namespace Go.Proofs.YtnkgbocdpngldaaGreatDoor

theorem worst_congr {M N : Mach} {g h : Nat} (hn : ∀ k, M.next g k = N.next h k) (hb : ∀ k, M.back g k = N.back h k) (ht : ∀ k, M.tries g k = N.tries h k) (hm : ∀ k, M.mins g k = N.mins h k) : ∀ (m k f left : Nat), worstF M g m k f left = worstF N h m k f left
  | 0, _, _, _ => rfl
  | m + 1, k, f, left => by
    rw [worstF, worstF, hn k, ht k, hm k, hb k]
    split
    · rfl
    · simp only
      rw [worst_congr hn hb ht hm m]
      cases left with
      | zero => rfl
      | succ l =>
        simp only
        rw [worst_congr hn hb ht hm m 0 0 l, worst_congr hn hb ht hm m (N.back h k).toNat 0 l, worst_congr hn hb ht hm m k (f + 1) l]
theorem worstS_congr {M N : Mach} {g h : Nat} (hn : ∀ k, M.next g k = N.next h k) (hb : ∀ k, M.back g k = N.back h k) (ht : ∀ k, M.tries g k = N.tries h k) (hm : ∀ k, M.mins g k = N.mins h k) (k f left : Nat) : worstS M g k f left = worstS N h k f left := worst_congr hn hb ht hm _ _ _ _

theorem worst_mono {M : Mach} {g : Nat} (L : Leads M g) : ∀ (l e k f : Nat), k < M.rungs g → endsM M g e k = true → worstS M g k f l ≤ worstS M g k f (l + 1)
  | l, 0, k, f, hk, he => by cases he
  | l, e + 1, k, f, hk, he => by
    rw [endsM] at he
    by_cases hn : M.next g k < 0
    · rw [worstS_goal hn, worstS_goal hn]; exact Int.le_refl _
    · rw [if_neg hn] at he
      have hnx := L.good.next g k L.lt hk
      have r0 := L.good.r0 g L.lt
      have h1 := worst_mono L l e (M.next g k).toNat 0 (by omega) he
      rw [worstS_step L hk (by omega), worstS_step L hk (by omega)]
      cases l with
      | zero => simp only; omega
      | succ l =>
        have h2 := worst_mono L l 8 0 0 (by omega) (L.eight (by omega))
        have h3 := worst_mono L l 8 (M.back g k).toNat 0 (L.back hk) (L.eight (L.back hk))
        have h4 := worst_mono L l 8 k (f + 1) hk (L.eight hk)
        simp only
        split <;> omega
termination_by l e => (l, e)
/-- a machine of one guard without needs -/
structure Lone (M : Mach) : Prop where
  leads : Leads M 0
  one : M.n = 1
  free : ∀ k, M.needs 0 k = []
theorem Lone.held {M : Mach} (L : Lone M) (x : St) : heldS M x 0 = true := by unfold heldS; rw [L.free]; rfl
theorem Lone.move {M : Mach} (L : Lone M) (x : St) (v : Ev) : moveS M x v = actS M x v := by
  unfold moveS
  rw [L.one]
  show falls M 0 1 (fallS M 0 (actS M x v)) = _
  rw [fallS_held (L.held _)]
  rfl
/-- one event of a run of one guard: what is left of the worst time -/
theorem worst_round {M : Mach} (L : Lone M) {x : St} (hx : M.At x) {k : Int} (hk : 0 ≤ k ∧ k ≤ 2) (hn : 0 ≤ M.next 0 (x.a 0).toNat) {left l : Nat} (hl : if k = 0 then l = left else left = l + 1) {e : Nat} (he : endsM M 0 e (x.a 0).toNat = true) :
    M.At (moveS M x ⟨0, k⟩) ∧ worstS M 0 ((moveS M x ⟨0, k⟩).a 0).toNat ((moveS M x ⟨0, k⟩).f 0).toNat l + M.mins 0 (x.a 0).toNat ≤ worstS M 0 (x.a 0).toNat (x.f 0).toNat left ∧
    ∃ e', endsM M 0 e' ((moveS M x ⟨0, k⟩).a 0).toNat = true ∧ l * 9 + e' + 1 ≤ left * 9 + e := by
  have G := L.leads.good
  have h1 := L.one
  have hok : okEv M ⟨0, k⟩ = true := okEv_iff.2 ⟨by simp, by simp; omega, hk⟩
  have hat := move_at G hx hok
  refine ⟨hat, ?_⟩
  have ha := hx.a 0 (by omega)
  have hf := hx.f 0 (by omega)
  have hnx := G.next 0 (x.a 0).toNat (by omega) (by omega)
  have hb := back_le G (g := 0) (by omega) (k := (x.a 0).toNat) (by omega)
  have r0 := G.r0 0 (by omega)
  have hst := worstS_step L.leads (k := (x.a 0).toNat) (f := (x.f 0).toNat) (left := left) (by omega) hn
  have he1 : 1 ≤ e := by
    cases e with
    | zero => cases he
    | succ e => omega
  have hbd := L.leads.back (k := (x.a 0).toNat) (by omega)
  rw [L.move]
  unfold actS
  simp only [show (0 : Int).toNat = 0 from rfl]
  by_cases k2 : k = 2
  · rw [if_pos k2]
    rw [if_neg (by omega)] at hl
    subst hl
    rw [St.a_go _ (by omega) (by omega), St.f_go _ (by omega) (by omega), if_pos rfl, if_pos rfl]
    simp only [show (0 : Int).toNat = 0 from rfl]
    simp only at hst
    refine ⟨by rw [hst]; split <;> omega, 8, L.leads.eight (by omega), by omega⟩
  · rw [if_neg k2]
    by_cases k0 : k = 0
    · rw [if_pos ⟨k0, hn⟩]
      rw [if_pos k0] at hl
      subst hl
      rw [St.a_go _ (by omega) (by omega), St.f_go _ (by omega) (by omega), if_pos rfl, if_pos rfl]
      simp only [show (0 : Int).toNat = 0 from rfl]
      refine ⟨?_, ?_⟩
      · rw [hst]
        cases l with
        | zero => simp only; omega
        | succ l => simp only; split <;> omega
      · cases e with
        | zero => cases he
        | succ e =>
          rw [endsM, if_neg (by omega)] at he
          exact ⟨e, he, by omega⟩
    · rw [if_neg (fun h => k0 h.1)]
      rw [if_neg k0] at hl
      subst hl
      simp only at hst
      have k1 : k = 1 := by omega
      by_cases hft : x.f 0 = M.tries 0 (x.a 0).toNat - 1
      · rw [if_pos ⟨k1, hft⟩]
        rw [St.a_go _ (by omega) (by omega), St.f_go _ (by omega) (by omega), if_pos rfl, if_pos rfl]
        simp only [show (0 : Int).toNat = 0 from rfl]
        rw [if_pos (by omega)] at hst
        exact ⟨by rw [hst]; omega, 8, L.leads.eight hbd, by omega⟩
      · rw [if_neg (fun h => hft h.2), if_pos k1]
        rw [St.a_fail _ (by omega), St.f_fail _ (by omega) (by omega), if_pos rfl]
        rw [if_neg (by omega)] at hst
        have hf1 : (x.f 0 + 1).toNat = (x.f 0).toNat + 1 := by omega
        rw [hf1]
        exact ⟨by rw [hst]; omega, 8, L.leads.eight (by omega), by omega⟩
end Go.Proofs.YtnkgbocdpngldaaGreatDoor

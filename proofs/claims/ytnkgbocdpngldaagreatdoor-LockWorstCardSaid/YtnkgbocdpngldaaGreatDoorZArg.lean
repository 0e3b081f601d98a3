/-
  What a call's arguments read as: systems, places, events.
-/
import Derived.Test.YtnkgbocdpngldaaGreatDoorZNev
import Derived.Deep.Slices
import Derived.OpenShut
set_option linter.unusedVariables false
set_option linter.unusedSimpArgs false
namespace Go.Proofs.YtnkgbocdpngldaaGreatDoor
open Go.RowKit Dc Dg
open Go.ChangeShapes Go.WideShapes
set_option maxRecDepth 100000

theorem list_of {α : Type} : ∀ (n : Nat) (p : Nat → α → Prop), (∀ i, i < n → ∃ x, p i x) → ∃ l : List α, l.length = n ∧ ∀ i (h : i < l.length), p i l[i]
  | 0, _, _ => ⟨[], rfl, fun i h => by simp at h⟩
  | n + 1, p, h => by
    obtain ⟨l, hl, hp⟩ := list_of n p (fun i hi => h i (by omega))
    obtain ⟨x, hx⟩ := h n (by omega)
    refine ⟨l ++ [x], by simp [hl], fun i hi => ?_⟩
    by_cases hin : i < l.length
    · rw [List.getElem_append_left hin]; exact hp i hin
    · have hie : i = n := by simp at hi; omega
      subst hie
      rw [List.getElem_append_right (by omega)]
      simp only [hl, Nat.sub_self, List.getElem_cons_zero]
      exact hx
section
variable {H : Type} {enc : TypeId × Value → H} {w : World} {sp : Nat → Bool} {held : Bool}
/-- no part is too long -/
def Fits (t : TypeId) (d : DataW H) : Prop := ∀ n ∈ d.weights Tryz.prog t, n ≤ 140737488351232
theorem weightsAll_mem {e : TypeId} : ∀ {l : List (DataW H)} {d : DataW H}, d ∈ l → ∀ n ∈ d.weights Tryz.prog e, n ∈ DataW.weightsAll Tryz.prog e l
  | [], _, h, _, _ => by cases h
  | x :: l, d, h, n, hn => by
    unfold DataW.weightsAll
    rcases List.mem_cons.1 h with rfl | h
    · exact List.mem_append_left _ hn
    · exact List.mem_append_right _ (weightsAll_mem h n hn)
/-- a slice that can be read -/
theorem slice_of {t e : TypeId} {k fuel : Nat} {cs : List Value} {x : DataW H × List MemPlace} (ht : Tryz.prog.underlying t = some (.slice e)) (hk : Tryz.prog.cellsOf e = k) (hk0 : 0 < k) (hby : 1 ≤ Tryz.prog.bytesOf e) (h : DataW.trod enc Tryz.prog w 0 sp held fuel t cs = some x) (hf : Fits t x.1) :
    ∃ (p : Option Addr) (len cap : Nat), cs = [.slice p len cap] ∧ len ≤ cap ∧ cap ≤ maxLen ∧ len ≤ 140737488351232 ∧ (0 < len → ∃ b o, p = some ⟨b, o, none⟩ ∧ b < w.heap.size ∧ ∀ i, i < len → ∃ (ecs : List Value) (n : Nat) (y : DataW H × List MemPlace), ecs.length = k ∧ (∀ j, j < k → w.cell? ⟨b, o + i * k + j, none⟩ = ecs[j]?) ∧ DataW.trod enc Tryz.prog w 0 sp held n e ecs = some y ∧ Fits e y.1) := by
  rcases Go.Deep.open_slice ht h with ⟨rfl, _⟩ | ⟨a, len, cap, m, n, D, Pl, rfl, _, hl, hm, hmm, hxe, hx⟩
  · exact ⟨none, 0, 0, rfl, Nat.le_refl _, Nat.zero_le _, Nat.zero_le _, fun h => absurd h (Nat.lt_irrefl 0)⟩
  · have hlm : len ≤ m := by rw [hmm]; split <;> omega
    have hfe : ∀ i, i < len → Fits e (D i) := fun i hi n hn => hf n (by
      rw [hxe]
      show n ∈ DataW.weights Tryz.prog t (.slice _ _)
      unfold DataW.weights
      rw [ht]
      exact List.mem_cons_of_mem _ (List.mem_append_left _ (weightsAll_mem (List.mem_map.2 ⟨i, List.mem_range.2 hi, rfl⟩) n hn)))
    have hlr : len ≤ 140737488351232 := by
      have h1 := hf ((((List.range len).map D).length + ((List.range (m - len)).map fun j => D (len + j)).length) * Tryz.prog.bytesOf e) (by
        rw [hxe]
        show _ ∈ DataW.weights Tryz.prog t (.slice _ _)
        unfold DataW.weights
        rw [ht]
        exact List.mem_cons_self ..)
      simp only [List.length_map, List.length_range] at h1
      have h2 : len * 1 ≤ (len + (m - len)) * Tryz.prog.bytesOf e := Nat.mul_le_mul (by omega) hby
      omega
    refine ⟨some a, len, cap, rfl, hl, hm, hlr, fun h0 => ?_⟩
    rw [hk] at hx
    have cellAt : ∀ i, i < len → ∃ (ecs : List Value), ecs.length = k ∧ (∀ j, j < k → w.cell? ((a.add (i * k)).add j) = ecs[j]?) ∧ ∃ y, DataW.trod enc Tryz.prog w 0 sp held n e ecs = some y ∧ Fits e y.1 := fun i hi => by
      obtain ⟨ecs, h1, h2⟩ := hx i (by omega)
      obtain ⟨_, hlen, hc⟩ := World.cells?_some h1
      exact ⟨ecs, hlen, fun j hj => hc j hj, _, h2, hfe i hi⟩
    obtain ⟨ecs, hlen, hc, _⟩ := cellAt 0 h0
    have h00 := hc 0 hk0
    rw [Nat.zero_mul] at h00
    have hsp : a.spot = none ∧ a.block < w.heap.size := by
      have e0 : (a.add 0).add 0 = a := by simp [Addr.add]
      rw [e0, List.getElem?_eq_getElem (by omega)] at h00
      unfold World.cell? at h00
      split at h00
      · rename_i c _ _ hb
        split at h00
        · cases h00
        · rename_i hs
          exact ⟨by simpa using hs, row_lt hb⟩
      · cases h00
    obtain ⟨hs, hb⟩ := hsp
    obtain ⟨b, o, s⟩ := a
    simp only at hs hb
    subst hs
    refine ⟨b, o, rfl, hb, fun i hi => ?_⟩
    obtain ⟨ecs, hlen, hc, y, hy⟩ := cellAt i hi
    refine ⟨ecs, n, y, hlen, fun j hj => ?_, hy⟩
    have ea : ((⟨b, o, none⟩ : Addr).add (i * k)).add j = ⟨b, o + i * k + j, none⟩ := by
      rw [Go.Deep.add_add]
      unfold Addr.add
      split
      · rename_i hz
        rw [Nat.add_assoc, hz, Nat.add_zero]
      · rw [Nat.add_assoc]
    rw [← hc j hj, ea]
theorem string_of {t : TypeId} {fuel : Nat} {cs : List Value} {x : DataW H × List MemPlace} (ht : Tryz.prog.underlying t = some .string) (h : DataW.trod enc Tryz.prog w 0 sp held fuel t cs = some x) (hf : Fits t x.1) : ∃ s : ByteArray, cs = [.string s] ∧ s.size ≤ 140737488351232 := by
  obtain ⟨s, e, hx, hs⟩ := DataW.trod_string ht h
  refine ⟨s, e, ?_⟩
  have := hf s.data.toList.length (by rw [hx]; unfold DataW.weights; exact List.mem_cons_self ..)
  simpa using this
theorem int_of {t : TypeId} {k : IntKind} {fuel : Nat} {cs : List Value} {x : DataW H × List MemPlace} (ht : Tryz.prog.underlying t = some (.int k)) (h : DataW.trod enc Tryz.prog w 0 sp held fuel t cs = some x) : ∃ z : Int, cs = [.int k z] := by
  obtain ⟨z, e, _⟩ := DataW.trod_int ht h
  exact ⟨z, e⟩
/-- words that can be read -/
theorem words_of {t : TypeId} {fuel : Nat} {cs : List Value} {x : DataW H × List MemPlace} (ht : Tryz.prog.underlying t = some (.slice 9)) (h : DataW.trod enc Tryz.prog w 0 sp held fuel t cs = some x) (hf : Fits t x.1) :
    ∃ (p : Option Addr) (cap : Nat) (l : List ByteArray), cs = [.slice p l.length cap] ∧ l.length ≤ 140737488351232 ∧ WordsP w p l := by
  obtain ⟨p, len, cap, rfl, hl, hm, hr, hx⟩ := slice_of ht (by kernel_rfl : Tryz.prog.cellsOf 9 = 1) (by decide) (of_decide_eq_true (by kernel_rfl)) h hf
  by_cases h0 : 0 < len
  · obtain ⟨b, o, rfl, hb, hx⟩ := hx h0
    obtain ⟨l, rfl, hp⟩ := list_of len (fun i s => w.cell? ⟨b, o + i, none⟩ = some (.string s)) (fun i hi => by
      obtain ⟨ecs, n, y, h1, h2, h3, h4⟩ := hx i hi
      obtain ⟨s, rfl, _⟩ := string_of (by kernel_rfl) h3 h4
      exact ⟨s, by have := h2 0 (by omega); rw [Nat.mul_one, Nat.add_zero] at this; exact this⟩)
    exact ⟨_, cap, l, rfl, hr, ⟨fun _ => ⟨b, o, rfl, hb, hp⟩⟩⟩
  · obtain rfl : len = 0 := by omega
    exact ⟨p, cap, [], rfl, hr, ⟨fun h => absurd h (Nat.lt_irrefl 0)⟩⟩
theorem field_of {t : TypeId} {fs : Array Field} {fuel : Nat} {cs : List Value} {x : DataW H × List MemPlace} (ht : Tryz.prog.underlying t = some (.struct fs)) (h : DataW.trod enc Tryz.prog w 0 sp held fuel t cs = some x) (hw : Fits t x.1) {i : Nat} {f : Field} (hf : fs[i]? = some f) :
    ∃ n y, DataW.trod enc Tryz.prog w 0 sp held n f.type ((cs.drop f.offset).take (Tryz.prog.cellsOf f.type)) = some y ∧ Fits f.type y.1 := by
  obtain ⟨xs, n, _, hxe, _, hl, hx⟩ := DataW.trod_struct ht h
  have h1 := hx i f hf
  have hi : i < xs.length := by rw [hl]; exact (Array.getElem?_eq_some_iff.1 hf).1
  rw [List.getElem?_eq_getElem hi] at h1
  refine ⟨n, _, h1, fun m hm => hw m ?_⟩
  rw [hxe]
  show m ∈ DataW.weights Tryz.prog t (.agg _)
  unfold DataW.weights
  rw [ht]
  exact DataW.weights_mem_each (j := i) (by simp only [List.getElem?_map, Array.getElem?_toList, hf, Option.map_some]) (by simp only [List.getElem?_map, List.getElem?_eq_getElem hi, Option.map_some]) m hm
theorem at_of {cs : List Value} {o k : Nat} {v : Value} (h : (cs.drop o).take k = [v]) : cs[o]? = some v := by
  have h1 := congrArg (·[0]?) h
  simp only [List.getElem?_take, List.getElem?_drop, List.getElem?_cons_zero, Nat.add_zero] at h1
  split at h1
  · exact h1
  · cases h1
/-- needs that can be read -/
theorem needs_of {t : TypeId} {fuel : Nat} {cs : List Value} {x : DataW H × List MemPlace} (ht : Tryz.prog.underlying t = some (.slice 65)) (h : DataW.trod enc Tryz.prog w 0 sp held fuel t cs = some x) (hf : Fits t x.1) :
    ∃ (p : Option Addr) (cap : Nat) (l : List Nd), cs = [.slice p l.length cap] ∧ l.length ≤ 140737488351232 ∧ NeedsP w p l ∧ ∀ x ∈ l, x.rungs.length ≤ 140737488351232 := by
  obtain ⟨p, len, cap, rfl, hl, hm, hr, hx⟩ := slice_of ht (by kernel_rfl : Tryz.prog.cellsOf 65 = 2) (by decide) (of_decide_eq_true (by kernel_rfl)) h hf
  by_cases h0 : 0 < len
  · obtain ⟨b, o, rfl, hb, hx⟩ := hx h0
    obtain ⟨l, rfl, hp⟩ := list_of len (fun i (s : Nd) => (∃ q c, w.cell? ⟨b, o + i * 2, none⟩ = some (.int .i64 s.guard) ∧ w.cell? ⟨b, o + i * 2 + 1, none⟩ = some (.slice q s.rungs.length c) ∧ WordsP w q s.rungs) ∧ s.rungs.length ≤ 140737488351232) (fun i hi => by
      obtain ⟨ecs, n, y, h1, h2, h3, h4⟩ := hx i hi
      obtain ⟨n1, y1, f1, gf1⟩ := field_of Tryz.underlying65 h3 h4 (i := 0) rfl
      obtain ⟨n2, y2, f2, gf2⟩ := field_of Tryz.underlying65 h3 h4 (i := 1) rfl
      obtain ⟨z, e1⟩ := int_of und3 f1
      obtain ⟨q, c, l, e2, hlc, hw⟩ := words_of (by kernel_rfl) f2 gf2
      exact ⟨⟨z, l⟩, ⟨q, c, (h2 0 (by omega)).trans (at_of e1), (h2 1 (by omega)).trans (at_of e2), hw⟩, hlc⟩)
    exact ⟨_, cap, l, rfl, hr, ⟨fun _ => ⟨b, o, rfl, hb, fun i hi => (hp i hi).1⟩⟩, fun x hx => by obtain ⟨i, hi, rfl⟩ := List.mem_iff_getElem.1 hx; exact (hp i hi).2⟩
  · obtain rfl : len = 0 := by omega
    exact ⟨p, cap, [], rfl, Nat.zero_le _, ⟨fun h => absurd h (Nat.lt_irrefl 0)⟩, fun x hx => by cases hx⟩
/-- closings that can be read -/
theorem loops_of {fuel : Nat} {cs : List Value} {x : DataW H × List MemPlace} (h : DataW.trod enc Tryz.prog w 0 sp held fuel 57 cs = some x) (hf : Fits 57 x.1) :
    ∃ (p : Option Addr) (cap : Nat) (l : List Cl), cs = [.slice p l.length cap] ∧ l.length ≤ 140737488351232 ∧ LoopsP w p l := by
  obtain ⟨p, len, cap, rfl, hl, hm, hr, hx⟩ := slice_of Tryz.underlying57 (k := 2) (by kernel_rfl) (by decide) (of_decide_eq_true (by kernel_rfl)) h hf
  by_cases h0 : 0 < len
  · obtain ⟨b, o, rfl, hb, hx⟩ := hx h0
    obtain ⟨l, rfl, hp⟩ := list_of len (fun i (s : Cl) => w.cell? ⟨b, o + i * 2, none⟩ = some (.int .i64 s.loop) ∧ w.cell? ⟨b, o + i * 2 + 1, none⟩ = some (.string s.gain)) (fun i hi => by
      obtain ⟨ecs, n, y, h1, h2, h3, h4⟩ := hx i hi
      obtain ⟨n1, y1, f1, gf1⟩ := field_of Tryz.underlying136 h3 h4 (i := 0) rfl
      obtain ⟨n2, y2, f2, gf2⟩ := field_of Tryz.underlying136 h3 h4 (i := 1) rfl
      obtain ⟨z, e1⟩ := int_of und3 f1
      obtain ⟨s, e2, _⟩ := string_of (by kernel_rfl) f2 gf2
      exact ⟨⟨z, s⟩, (h2 0 (by omega)).trans (at_of e1), (h2 1 (by omega)).trans (at_of e2)⟩)
    exact ⟨_, cap, l, rfl, hr, ⟨fun _ => ⟨b, o, rfl, hb, hp⟩⟩⟩
  · obtain rfl : len = 0 := by omega
    exact ⟨p, cap, [], rfl, Nat.zero_le _, ⟨fun h => absurd h (Nat.lt_irrefl 0)⟩⟩
/-- rungs that can be read -/
theorem rungs_of {t : TypeId} {fuel : Nat} {cs : List Value} {x : DataW H × List MemPlace} (ht : Tryz.prog.underlying t = some (.slice 59)) (h : DataW.trod enc Tryz.prog w 0 sp held fuel t cs = some x) (hf : Fits t x.1) :
    ∃ (p : Option Addr) (cap : Nat) (l : List Rg), cs = [.slice p l.length cap] ∧ l.length ≤ 140737488351232 ∧ RungsP w p l ∧ ∀ r ∈ l, FitR r := by
  obtain ⟨p, len, cap, rfl, hl, hm, hr, hx⟩ := slice_of ht (by kernel_rfl : Tryz.prog.cellsOf 59 = 7) (by decide) (of_decide_eq_true (by kernel_rfl)) h hf
  by_cases h0 : 0 < len
  · obtain ⟨b, o, rfl, hb, hx⟩ := hx h0
    obtain ⟨l, rfl, hp⟩ := list_of len (fun i (r : Rg) => (∃ q1 c1 q2 c2, RungAt w b (o + i * 7) r q1 c1 q2 c2) ∧ FitR r) (fun i hi => by
      obtain ⟨ecs, n, y, h1, h2, h3, h4⟩ := hx i hi
      obtain ⟨n0, y0, f0, gf0⟩ := field_of Tryz.underlying59 h3 h4 (i := 0) rfl
      obtain ⟨n1, y1, f1, gf1⟩ := field_of Tryz.underlying59 h3 h4 (i := 1) rfl
      obtain ⟨n2, y2, f2, gf2⟩ := field_of Tryz.underlying59 h3 h4 (i := 2) rfl
      obtain ⟨n3, y3, f3, gf3⟩ := field_of Tryz.underlying59 h3 h4 (i := 3) rfl
      obtain ⟨n4, y4, f4, gf4⟩ := field_of Tryz.underlying59 h3 h4 (i := 4) rfl
      obtain ⟨n5, y5, f5, gf5⟩ := field_of Tryz.underlying59 h3 h4 (i := 5) rfl
      obtain ⟨n6, y6, f6, gf6⟩ := field_of Tryz.underlying59 h3 h4 (i := 6) rfl
      obtain ⟨s0, e0, m0⟩ := string_of (by kernel_rfl) f0 gf0
      obtain ⟨s1, e1, _⟩ := string_of (by kernel_rfl) f1 gf1
      obtain ⟨s2, e2, _⟩ := string_of (by kernel_rfl) f2 gf2
      obtain ⟨z3, e3⟩ := int_of und3 f3
      obtain ⟨z4, e4⟩ := int_of und3 f4
      obtain ⟨q5, c5, l5, e5, m5, hn5, k5⟩ := needs_of (by kernel_rfl) f5 gf5
      obtain ⟨q6, c6, l6, e6, m6, hn6⟩ := loops_of f6 gf6
      exact ⟨⟨s0, s1, s2, z3, z4, l5, l6⟩, ⟨q5, c5, q6, c6, (h2 0 (by omega)).trans (at_of e0), (h2 1 (by omega)).trans (at_of e1), (h2 2 (by omega)).trans (at_of e2), (h2 3 (by omega)).trans (at_of e3), (h2 4 (by omega)).trans (at_of e4), (h2 5 (by omega)).trans (at_of e5), (h2 6 (by omega)).trans (at_of e6), hn5, hn6⟩, ⟨by show s0.size ≤ _; omega, by show l5.length ≤ _; omega, by show l6.length ≤ _; omega, fun x hx => by have := k5 x hx; omega⟩⟩)
    exact ⟨_, cap, l, rfl, hr, ⟨fun _ => ⟨b, o, rfl, hb, fun i hi => (hp i hi).1⟩⟩, fun x hx => by obtain ⟨i, hi, rfl⟩ := List.mem_iff_getElem.1 hx; exact (hp i hi).2⟩
  · obtain rfl : len = 0 := by omega
    exact ⟨p, cap, [], rfl, Nat.zero_le _, ⟨fun h => absurd h (Nat.lt_irrefl 0)⟩, fun x hx => by cases hx⟩
/-- a system that can be read -/
theorem sys_of {v : Value} {d : DataW H} {pl : List MemPlace} (h : DataW.Trod enc Tryz.prog w 0 sp held 24 v d pl) (hf : Fits 24 d) (hX : Gx w) : ∃ (p : Option Addr) (c : Nat) (gs : List Gd), v.cells.toList = [.slice p gs.length c] ∧ SysP w p c gs := by
  obtain ⟨fuel, h⟩ := h
  obtain ⟨n0, y0, f0, gf0⟩ := field_of Tryz.underlying24 h hf (i := 0) rfl
  obtain ⟨xs, _, _, _, hcl, _, _⟩ := DataW.trod_struct Tryz.underlying24 h
  have hc1 : Tryz.prog.cellsOf 24 = 1 := by kernel_rfl
  obtain ⟨p, len, cap, e0, hl, hm, hr, hx⟩ := slice_of Tryz.underlying22 (by kernel_rfl : Tryz.prog.cellsOf 62 = 2) (by decide) (of_decide_eq_true (by kernel_rfl)) f0 gf0
  have hv : v.cells.toList = [.slice p len cap] := by
    have h0 := at_of e0
    rw [hc1] at hcl
    revert hcl h0
    generalize v.cells.toList = l
    intro hcl h0
    match l, hcl, h0 with
    | [a], _, h0 =>
      have : a = .slice p len cap := by
        have h1 : [a][0]? = some (.slice p len cap) := h0
        simpa using h1
      rw [this]
  by_cases h0 : 0 < len
  · obtain ⟨b, o, rfl, hb, hx⟩ := hx h0
    obtain ⟨l, rfl, hp⟩ := list_of len (fun i (g : Gd) => (∃ q c, w.cell? ⟨b, o + i * 2, none⟩ = some (.string g.name) ∧ w.cell? ⟨b, o + i * 2 + 1, none⟩ = some (.slice q g.rungs.length c) ∧ RungsP w q g.rungs) ∧ g.name.size ≤ 140737488351232 ∧ g.rungs.length ≤ 140737488351232 ∧ ∀ r ∈ g.rungs, FitR r) (fun i hi => by
      obtain ⟨ecs, n, y, h1, h2, h3, h4⟩ := hx i hi
      obtain ⟨n0, y0, f0, gf0⟩ := field_of Tryz.underlying62 h3 h4 (i := 0) rfl
      obtain ⟨n1, y1, f1, gf1⟩ := field_of Tryz.underlying62 h3 h4 (i := 1) rfl
      obtain ⟨s0, e0, m0⟩ := string_of (by kernel_rfl) f0 gf0
      obtain ⟨q1, c1, l1, e1, m1, hn1, k1⟩ := rungs_of (by kernel_rfl) f1 gf1
      exact ⟨⟨s0, l1⟩, ⟨q1, c1, (h2 0 (by omega)).trans (at_of e0), (h2 1 (by omega)).trans (at_of e1), hn1⟩, m0, m1, k1⟩)
    refine ⟨_, cap, l, hv, ⟨⟨fun _ => ⟨b, o, rfl, hb, fun i hi => (hp i hi).1⟩⟩, hX, ⟨fun g hg => ?_, fun g hg => ?_, fun g hg => ?_⟩, hl, by unfold maxLen at hm; omega⟩⟩
    · obtain ⟨i, hi, rfl⟩ := List.mem_iff_getElem.1 hg; have := (hp i hi).2.1; omega
    · obtain ⟨i, hi, rfl⟩ := List.mem_iff_getElem.1 hg; exact (hp i hi).2.2.2
    · obtain ⟨i, hi, rfl⟩ := List.mem_iff_getElem.1 hg; have := (hp i hi).2.2.1; omega
  · obtain rfl : len = 0 := by omega
    exact ⟨p, cap, [], hv, ⟨⟨fun h => absurd h (Nat.lt_irrefl 0)⟩, hX, ⟨fun g hg => by (cases hg), fun g hg => by (cases hg), fun g hg => by (cases hg)⟩, Nat.zero_le _, by unfold maxLen at hm; omega⟩⟩
theorem slice_val {r : Reach} {base : Nat} {t e : TypeId} {v : Value} {p : Option Addr} {l c : Nat} (ht : Tryz.prog.underlying t = some (.slice e)) (h : Value.okWide Tryz.prog w r base t v) (hv : v.cells.toList = [.slice p l c]) : v = .slice p l c := by
  cases v
  case agg xs =>
    unfold Value.okWide at h
    rw [ht] at h
    simp only [Cell.okWide, ht, Cell.ok] at h
  all_goals (simp [Value.cells] at hv)
  case slice a b d =>
    obtain ⟨rfl, rfl, rfl⟩ := hv
    rfl
/-- events that can be read -/
theorem evs_of {r : Reach} {base : Nat} {v : Value} {d : DataW H} {pl : List MemPlace} (h : DataW.Trod enc Tryz.prog w 0 sp held 29 v d pl) (hf : Fits 29 d) (hok : Value.okWide Tryz.prog w r base 29 v) : ∃ l : List Ev, EvsQ w v l ∧ (l.length : Int) ≤ 9223372036854775807 := by
  obtain ⟨fuel, h⟩ := h
  obtain ⟨p, len, cap, e0, hl, hm, hr, hx⟩ := slice_of Tryz.underlying29 (by kernel_rfl : Tryz.prog.cellsOf 53 = 2) (by decide) (of_decide_eq_true (by kernel_rfl)) h hf
  have hv : v = .slice p len cap := slice_val Tryz.underlying29 hok e0
  by_cases h0 : 0 < len
  · obtain ⟨b, o, rfl, hb, hx⟩ := hx h0
    obtain ⟨l, rfl, hp⟩ := list_of len (fun i (s : Ev) => w.cell? ⟨b, o + i * 2, none⟩ = some (.int .i64 s.g) ∧ w.cell? ⟨b, o + i * 2 + 1, none⟩ = some (.int .i64 s.k)) (fun i hi => by
      obtain ⟨ecs, n, y, h1, h2, h3, h4⟩ := hx i hi
      obtain ⟨n0, y0, f0, gf0⟩ := field_of Tryz.underlying53 h3 h4 (i := 0) rfl
      obtain ⟨n1, y1, f1, gf1⟩ := field_of Tryz.underlying53 h3 h4 (i := 1) rfl
      obtain ⟨z, e1⟩ := int_of und3 f0
      obtain ⟨z2, e2⟩ := int_of und3 f1
      exact ⟨⟨z, z2⟩, (h2 0 (by omega)).trans (at_of e1), (h2 1 (by omega)).trans (at_of e2)⟩)
    exact ⟨l, ⟨_, cap, hv, fun _ => ⟨b, o, rfl, hb, hp⟩⟩, by omega⟩
  · obtain rfl : len = 0 := by omega
    exact ⟨[], ⟨p, cap, hv, fun h => absurd h (Nat.lt_irrefl 0)⟩, by simp⟩
theorem array_of {t e : TypeId} {n fuel : Nat} {cs : List Value} {x : DataW H × List MemPlace} (ht : Tryz.prog.underlying t = some (.array n e)) (h : DataW.trod enc Tryz.prog w 0 sp held fuel t cs = some x) {i : Nat} (hi : i < n) :
    ∃ m y, DataW.trod enc Tryz.prog w 0 sp held m e ((cs.drop (i * Tryz.prog.cellsOf e)).take (Tryz.prog.cellsOf e)) = some y := by
  obtain ⟨xs, m, _, _, _, hl, hx⟩ := DataW.trod_array ht h
  have h1 := hx i hi
  rw [List.getElem?_eq_getElem (by omega)] at h1
  exact ⟨m, _, h1⟩
/-- two places that can be read -/
theorem places_of {r : Reach} {base : Nat} {v : Value} {d : DataW H} {pl : List MemPlace} (h : DataW.Trod enc Tryz.prog w 0 sp held 35 v d pl) (hok : Value.okWide Tryz.prog w r base 35 v) : ∃ a1 a2 b1 b2 : Int, v = .agg #[.int .i64 a1, .int .i64 a2, .int .i64 b1, .int .i64 b2] := by
  obtain ⟨fuel, h⟩ := h
  have u35 : Tryz.prog.underlying 35 = some (.array 2 25) := by kernel_rfl
  have c35 : Tryz.prog.cellsOf 35 = 4 := by kernel_rfl
  obtain ⟨cs, rfl, hcs⟩ : ∃ cs, v = .agg cs ∧ cs.size = 4 := by
    unfold Value.okWide at hok
    rw [u35] at hok
    obtain ⟨cs, e, hs, _⟩ := hok
    exact ⟨cs, e, by rw [hs, c35]⟩
  have key : ∀ i j, i < 2 → j < 2 → ∃ z : Int, cs[i * 2 + j]? = some (.int .i64 z) := fun i j hi hj => by
    obtain ⟨m, y, h1⟩ := array_of u35 h hi
    obtain ⟨m2, y2, h2⟩ := array_of undP h1 hj
    obtain ⟨z, e⟩ := int_of und3 h2
    have h3 := at_of e
    rw [cellsP, cells3, Nat.mul_one, List.getElem?_take, if_pos (by omega), List.getElem?_drop] at h3
    exact ⟨z, by simpa [Value.cells] using h3⟩
  obtain ⟨a1, h0⟩ := key 0 0 (by omega) (by omega)
  obtain ⟨a2, h1⟩ := key 0 1 (by omega) (by omega)
  obtain ⟨b1, h2⟩ := key 1 0 (by omega) (by omega)
  obtain ⟨b2, h3⟩ := key 1 1 (by omega) (by omega)
  refine ⟨a1, a2, b1, b2, congrArg Value.agg (Array.ext_getElem? (fun i => ?_))⟩
  by_cases hi : i < 4
  · match i, hi with
    | 0, _ => exact h0
    | 1, _ => exact h1
    | 2, _ => exact h2
    | 3, _ => exact h3
  · rw [Array.getElem?_eq_none (by omega), Array.getElem?_eq_none (by simp; omega)]
end
end Go.Proofs.YtnkgbocdpngldaaGreatDoor

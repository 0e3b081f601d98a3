/-
  What a status reads as.
-/
import Derived.Test.YtnkgbocdpngldaaGreatDoorZArg
import Derived.Test.YtnkgbocdpngldaaGreatDoorZSta1
set_option linter.unusedVariables false
set_option linter.unusedSimpArgs false
namespace Go.Proofs.YtnkgbocdpngldaaGreatDoor
open Go.RowKit Dc Dg
open Go.ChangeShapes Go.WideShapes
set_option maxRecDepth 100000
section
variable {H : Type} {enc : TypeId × Value → H} {w : World} {sp : Nat → Bool} {held : Bool}
/-- numbers that can be read -/
theorem ints_of {t : TypeId} {fuel : Nat} {cs : List Value} {x : DataW H × List MemPlace} (ht : Tryz.prog.underlying t = some (.slice 3)) (h : DataW.trod enc Tryz.prog w 0 sp held fuel t cs = some x) (hf : Fits t x.1) :
    ∃ (p : Option Addr) (cap : Nat) (l : List Int), cs = [.slice p l.length cap] ∧ l.length ≤ 140737488351232 ∧ IntsQ w (.slice p l.length cap) l := by
  obtain ⟨p, len, cap, rfl, hl, hm, hr, hx⟩ := slice_of ht (by kernel_rfl : Tryz.prog.cellsOf 3 = 1) (by decide) (of_decide_eq_true (by kernel_rfl)) h hf
  by_cases h0 : 0 < len
  · obtain ⟨b, o, rfl, hb, hx⟩ := hx h0
    obtain ⟨l, rfl, hp⟩ := list_of len (fun i (s : Int) => w.cell? ⟨b, o + i, none⟩ = some (.int .i64 s)) (fun i hi => by
      obtain ⟨ecs, n, y, h1, h2, h3, h4⟩ := hx i hi
      obtain ⟨s, rfl⟩ := int_of und3 h3
      exact ⟨s, by have := h2 0 (by omega); rw [Nat.mul_one, Nat.add_zero] at this; exact this⟩)
    exact ⟨_, cap, l, rfl, hr, ⟨_, cap, rfl, fun _ => ⟨b, o, rfl, hb, hp⟩⟩⟩
  · obtain rfl : len = 0 := by omega
    exact ⟨p, cap, [], rfl, hr, ⟨p, cap, rfl, fun h => absurd h (Nat.lt_irrefl 0)⟩⟩
/-- a status that can be read -/
theorem stat_of {v : Value} {d : DataW H} {pl : List MemPlace} (h : DataW.Trod enc Tryz.prog w 0 sp held 41 v d pl) (hf : Fits 41 d) (hv : ∃ cs, v = .agg cs) : ∃ al fl, StatQ w v al fl := by
  obtain ⟨fuel, h⟩ := h
  obtain ⟨n0, y0, f0, gf0⟩ := field_of Tryz.underlying41 h hf (i := 0) rfl
  obtain ⟨n1, y1, f1, gf1⟩ := field_of Tryz.underlying41 h hf (i := 1) rfl
  obtain ⟨xs, _, _, _, hcl, _, _⟩ := DataW.trod_struct Tryz.underlying41 h
  have hc1 : Tryz.prog.cellsOf 41 = 2 := by kernel_rfl
  obtain ⟨p1, c1, al, e1, _, hq1⟩ := ints_of (by kernel_rfl) f0 gf0
  obtain ⟨p2, c2, fl, e2, _, hq2⟩ := ints_of (by kernel_rfl) f1 gf1
  have g1 := at_of e1
  have g2 := at_of e2
  obtain ⟨cs, rfl⟩ := hv
  rw [hc1] at hcl
  have hcs : (Value.agg cs).cells.toList = [.slice p1 al.length c1, .slice p2 fl.length c2] := by
    revert hcl g1 g2
    generalize (Value.agg cs).cells.toList = l
    intro hcl g1 g2
    match l, hcl, g1, g2 with
    | [a, b], _, g1, g2 =>
      have ha : a = .slice p1 al.length c1 := by
        have h1 : [a, b][0]? = some (Value.slice p1 al.length c1) := g1
        simpa using h1
      have hb : b = .slice p2 fl.length c2 := by
        have h1 : [a, b][1]? = some (Value.slice p2 fl.length c2) := g2
        simpa using h1
      rw [ha, hb]
  refine ⟨al, fl, ⟨_, _, ?_, hq1, hq2⟩⟩
  have : cs.toList = [.slice p1 al.length c1, .slice p2 fl.length c2] := hcs
  rw [show cs = #[.slice p1 al.length c1, .slice p2 fl.length c2] from Array.toList_inj.1 this]
end
end Go.Proofs.YtnkgbocdpngldaaGreatDoor

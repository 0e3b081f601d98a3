/-
  What two numbers, and a list of numbers, read as.
-/
import Derived.Test.YtnkgbocdpngldaaGreatDoorZArg2
set_option linter.unusedVariables false
set_option linter.unusedSimpArgs false
namespace Go.Proofs.YtnkgbocdpngldaaGreatDoor
open Go.RowKit Dc Dg
open Go.ChangeShapes Go.WideShapes
set_option maxRecDepth 100000
section
variable {H : Type} {enc : TypeId × Value → H} {w : World} {sp : Nat → Bool} {held : Bool}
/-- a list of numbers that can be read -/
theorem bits_of {r : Reach} {base : Nat} {v : Value} {d : DataW H} {pl : List MemPlace} (h : DataW.Trod enc Tryz.prog w 0 sp held 39 v d pl) (hf : Fits 39 d) (hok : Value.okWide Tryz.prog w r base 39 v) : ∃ (p : Option Addr) (c : Nat) (l : List Int), v = .slice p l.length c ∧ l.length ≤ 140737488351232 ∧ IntsQ w (.slice p l.length c) l := by
  obtain ⟨fuel, h⟩ := h
  obtain ⟨p, c, l, e, hl, hq⟩ := ints_of Tryz.underlying39 h hf
  exact ⟨p, c, l, slice_val Tryz.underlying39 hok e, hl, hq⟩
/-- two numbers that can be read -/
theorem pair_of {r : Reach} {base : Nat} {v : Value} {d : DataW H} {pl : List MemPlace} (h : DataW.Trod enc Tryz.prog w 0 sp held 25 v d pl) (hok : Value.okWide Tryz.prog w r base 25 v) : ∃ a b : Int, v = .agg #[.int .i64 a, .int .i64 b] := by
  obtain ⟨fuel, h⟩ := h
  obtain ⟨cs, rfl, hcs⟩ : ∃ cs, v = .agg cs ∧ cs.size = 2 := by
    unfold Value.okWide at hok
    rw [undP] at hok
    obtain ⟨cs, e, hs, _⟩ := hok
    exact ⟨cs, e, by rw [hs, cellsP]⟩
  have key : ∀ j, j < 2 → ∃ z : Int, cs[j]? = some (.int .i64 z) := fun j hj => by
    obtain ⟨m, y, h1⟩ := array_of undP h hj
    obtain ⟨z, e⟩ := int_of und3 h1
    have h3 := at_of e
    rw [cells3, Nat.mul_one] at h3
    exact ⟨z, by simpa [Value.cells] using h3⟩
  obtain ⟨a, h0⟩ := key 0 (by omega)
  obtain ⟨b, h1⟩ := key 1 (by omega)
  refine ⟨a, b, congrArg Value.agg (Array.ext_getElem? (fun i => ?_))⟩
  by_cases hi : i < 2
  · match i, hi with
    | 0, _ => exact h0
    | 1, _ => exact h1
  · rw [Array.getElem?_eq_none (by omega), Array.getElem?_eq_none (by simp; omega)]
end
end Go.Proofs.YtnkgbocdpngldaaGreatDoor

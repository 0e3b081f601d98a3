/-
  LockHeld: what the statuses and the needs of a valid system say.
-/
import Derived.Test.YtnkgbocdpngldaaGreatDoorZSta3
import Derived.Test.YtnkgbocdpngldaaGreatDoorZArm
import Derived.Test.YtnkgbocdpngldaaGreatDoorZNev
set_option linter.unusedVariables false
set_option linter.unusedSimpArgs false
namespace Go.Proofs.YtnkgbocdpngldaaGreatDoor
open Go.RowKit Dc Dg

theorem rungFrom_name : ∀ (l : List Rg) (s : List UInt8) (k i : Nat), rungFrom l s k = (i : Int) → ∃ h : i - k < l.length, k ≤ i ∧ l[i - k].name.data.toList = s
  | [], s, k, i, h => by unfold rungFrom at h; omega
  | r :: l, s, k, i, h => by
    unfold rungFrom at h
    split at h
    · rename_i hn
      have : i = k := by omega
      subst this
      exact ⟨by simp, Nat.le_refl _, by simpa using hn⟩
    · obtain ⟨h1, h2, h3⟩ := rungFrom_name l s (k + 1) i h
      have e : i - k = (i - (k + 1)) + 1 := by omega
      refine ⟨by rw [e]; simp; omega, by omega, ?_⟩
      simp only [e, List.getElem_cons_succ]
      exact h3
theorem rungI_name {l : List Rg} {s : List UInt8} {i : Nat} (h : rungI l s = (i : Int)) : ∃ h : i < l.length, l[i].name.data.toList = s := by
  obtain ⟨h1, _, h3⟩ := rungFrom_name l s 0 i h
  exact ⟨by simpa using h1, by simpa using h3⟩
theorem bytes_ext {a b : ByteArray} (h : a.data.toList = b.data.toList) : a = b := ByteArray.ext (Array.toList_inj.1 h)
theorem rgAt_get {gs : List Gd} {g k : Nat} (hk : k < (rungsAt gs g).length) : rgAt gs g k = (rungsAt gs g)[k] := by
  unfold rgAt
  rw [List.getElem?_eq_getElem hk]
/-- a need of a rung at which a guard is: the guard that it names is at a rung that it names -/
theorem held_word {gs : List Gd} {y : St} {g k : Nat} (hS : sysS gs = true) (hy : (machOf gs).At y) (hg : g < gs.length) (hh : heldS (machOf gs) y g = true) (hk : k < (rgAt gs g (y.a g).toNat).needs.length) :
    ∃ q : Nat, (rgAt gs g (y.a g).toNat).needs[k].guard = (q : Int) ∧ q < gs.length ∧ (y.a q).toNat < (rungsAt gs q).length ∧ (rgAt gs q (y.a q).toNat).name ∈ (rgAt gs g (y.a g).toNat).needs[k].rungs ∧ (rgAt gs g (y.a g).toNat).needs[k].rungs.length ≤ 8 := by
  have ha := hy.a g hg
  have hM : (machOf gs).rungs g = (rungsAt gs g).length := rfl
  obtain ⟨_, hf⟩ := need_fit hS hg (show (y.a g).toNat < (rungsAt gs g).length by omega)
  obtain ⟨f1, f2, f3⟩ := hf k hk
  obtain ⟨q, hq⟩ : ∃ q : Nat, (rgAt gs g (y.a g).toNat).needs[k].guard = (q : Int) := ⟨(rgAt gs g (y.a g).toNat).needs[k].guard.toNat, by omega⟩
  have hqg : q < gs.length := by omega
  have haq := hy.a q hqg
  have hMq : (machOf gs).rungs q = (rungsAt gs q).length := rfl
  refine ⟨q, hq, hqg, by omega, ?_, f3⟩
  have h1 := List.all_eq_true.1 hh (needI gs (rgAt gs g (y.a g).toNat).needs[k]) (List.mem_map.2 ⟨_, List.getElem_mem hk, rfl⟩)
  unfold needI at h1
  simp only [hq, Int.toNat_natCast, List.contains_iff_mem, List.mem_map] at h1
  obtain ⟨s, hs, he⟩ := h1
  have h2 := haq.1
  obtain ⟨j, hj⟩ : ∃ j : Nat, y.a q = (j : Int) := ⟨(y.a q).toNat, by omega⟩
  rw [hj] at he ⊢
  obtain ⟨h3, h4⟩ := rungI_name he
  rw [Int.toNat_natCast, rgAt_get h3, bytes_ext h4]
  exact hs
/-- a state in which all needs hold is a status -/
theorem ok_of {gs : List Gd} {y : St} (h1 : (machOf gs).At y) (h2 : HeldAll (machOf gs) y) : StOK gs (atL gs.length y) (failL gs.length y) y := ⟨h1, h2, rfl, rfl⟩
theorem MoveQ.good {gs : List Gd} {y : St} {v : Ev} {w w' : World} {e : Ending} (h : MoveQ gs (atL gs.length y) (failL gs.length y) v w e w') (hS : sysS gs = true) (hy : StOK gs (atL gs.length y) (failL gs.length y) y) (hv : okEv (machOf gs) v = true) :
    Below w.heap.size w w' ∧ ∃ u, e = .returned (.tuple #[u, .int .i64 0]) ∧ StatR w.heap.size gs.length w' u (moveS (machOf gs) y v) := by
  obtain ⟨hb, ⟨n, _, hn, _⟩ | ⟨z, _, hz, ⟨h1, _⟩ | ⟨_, u, he, hu⟩⟩⟩ := h
  · rcases hn with ⟨h1, _⟩ | ⟨_, _, h1⟩
    · rw [hS] at h1; cases h1
    · exact absurd hy (h1 y)
  · rw [hv] at h1; cases h1
  · have := hz.uniq (sys_len hS).2 hy
    subst this
    exact ⟨hb, u, he, hu⟩
theorem ChkQ.good {gs : List Gd} {al fl : List Int} {y : St} {w w' : World} {e : Ending} (h : ChkQ gs al fl w e w') (hS : sysS gs = true) (hy : StOK gs al fl y) : e = .returned (.int .i64 0) ∧ Below w.heap.size w w' := by
  obtain ⟨n, he, ⟨_, hn⟩ | ⟨rfl, _⟩, hb⟩ := h
  · rcases hn with ⟨h1, _⟩ | ⟨_, _, h1⟩
    · rw [hS] at h1; cases h1
    · exact absurd hy (h1 y)
  · exact ⟨he, hb⟩
theorem StatR.two {B n : Nat} {w : World} {v : Value} {x : St} (h : StatR B n w v x) (hn : n ≤ 3) : ∃ p1 c1 p2 c2, v = .agg #[.slice p1 n c1, .slice p2 n c2] ∧ IntR B w (.slice p1 n c1) (atL n x) ∧ IntR B w (.slice p2 n c2) (failL n x) := by
  obtain ⟨u1, u2, rfl, h1, h2⟩ := h
  obtain ⟨p1, c1, e1⟩ := h1.slice
  obtain ⟨p2, c2, e2⟩ := h2.slice
  rw [atL_len hn] at e1
  rw [failL_len hn] at e2
  subst e1; subst e2
  exact ⟨p1, c1, p2, c2, rfl, h1, h2⟩
/-- a system in memory, a guard's rungs -/
theorem SysP.rungs {gs : List Gd} {p : Option Addr} {c : Nat} {w : World} (h : SysP w p c gs) {g : Nat} (hg : g < gs.length) : ∃ bg og q cq, p = some ⟨bg, og, none⟩ ∧ bg < w.heap.size ∧ w.cell? ⟨bg, og + g * 2 + 1, none⟩ = some (.slice q (rungsAt gs g).length cq) ∧ RungsP w q (rungsAt gs g) := by
  obtain ⟨bg, og, e, hb, hc⟩ := h.G.at_ (by omega)
  obtain ⟨q, cq, h1, h2, h3⟩ := hc g hg
  have hra : rungsAt gs g = gs[g].rungs := by unfold rungsAt; rw [List.getElem?_eq_getElem hg]
  exact ⟨bg, og, q, cq, e, hb, by rw [hra]; exact h2, by rw [hra]; exact h3⟩
end Go.Proofs.YtnkgbocdpngldaaGreatDoor

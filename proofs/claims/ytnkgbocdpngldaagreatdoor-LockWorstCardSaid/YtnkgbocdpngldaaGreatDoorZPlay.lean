/-
  eventOK of package lock; the states of a queue.
-/
import Derived.Test.YtnkgbocdpngldaaGreatDoorZMeet
import Derived.Test.YtnkgbocdpngldaaGreatDoorZSmall2
set_option linter.unusedVariables false
set_option linter.unusedSimpArgs false
namespace Go.Proofs.YtnkgbocdpngldaaGreatDoor
open Go.RowKit Dc Dg

set_option maxRecDepth 100000 in
set_option maxHeartbeats 4000000 in
theorem eventOKN (gs : List Gd) (p : Option Addr) (c : Nat) (m : Nat) (v : Ev) (w : World) (hm : w.cell? ⟨m, 0, none⟩ = some (.slice p gs.length c)) (hn : gs.length ≤ 3) :
    Calls Tryz.prog 66 #[.pointer (some ⟨m, 0, none⟩), .agg #[.int .i64 v.g, .int .i64 v.k]] w (fun e w' => e = .returned (.bool (okEv (machOf gs) v)) ∧ Below w.heap.size w w') := by
  obtain ⟨g, k⟩ := v
  simp only
  have hml : m < w.heap.size := block_lt_of_cell hm
  have hbl : Below w.heap.size w (w.alloc (.cells #[.int .i64 g, .int .i64 k] 53)) := (Below.refl _ _).alloc (Nat.le_refl _) _
  have e0 := alloc_cell w #[.int .i64 g, .int .i64 k] 53 0 _ rfl
  have e1 := alloc_cell w #[.int .i64 g, .int .i64 k] 53 1 _ rfl
  have hm2 := (hbl.cell (p := ⟨m, 0, none⟩) hml).trans hm
  go_enter Tryz.func66, Tryz.ntmps66
  go_upto_region 1 with fail
  generalize w.alloc (.cells #[.int .i64 g, .int .i64 k] 53) = w1 at *
  by_cases h1 : 0 ≤ g ∧ g ≤ (gs.length : Int) - 1
  · have hT1 := Lib.hid (withinT h1.1 h1.2)
    have H1 := Lib.hid h1
    clear h1
    by_cases h2 : 0 ≤ k ∧ k ≤ 2
    · have hT2 := Lib.hid (withinT h2.1 h2.2)
      go_quiet ((go_at_call 49; first | with_reducible exact quiet_one (hT1.out _) | with_reducible exact quiet_one (hT2.out _)))
      go_wp2_with fail
      go_ret
      have := H1.out
      exact ⟨by unfold okEv machOf; simp; omega, below_drewN hbl _⟩
    · have hT2 := Lib.hid (withinF h2)
      go_quiet ((go_at_call 49; first | with_reducible exact quiet_one (hT1.out _) | with_reducible exact quiet_one (hT2.out _)))
      go_wp2_with fail
      go_ret
      exact ⟨by unfold okEv machOf; simp; omega, below_drewN hbl _⟩
  · have hT1 := Lib.hid (withinF h1)
    have H1 := Lib.hid h1
    clear h1
    go_quiet ((go_at_call 49; with_reducible exact quiet_one (hT1.out _)))
    go_wp2_with fail
    go_ret
    have := H1.out
    exact ⟨by unfold okEv machOf; simp; omega, below_drewN hbl _⟩
theorem stflat_get : ∀ (q : List St) (i : Nat) (h : i < q.length) (j : Nat), j < 6 → (q.flatMap stCells)[i * 6 + j]? = (stCells q[i])[j]?
  | [], i, h, _, _ => by simp at h
  | x :: q, 0, _, j, hj => by
    rw [List.flatMap_cons, List.getElem?_append_left (by simp [stCells]; omega)]
    simp
  | x :: q, i + 1, h, j, hj => by
    rw [List.flatMap_cons, List.getElem?_append_right (by simp [stCells]; omega)]
    rw [show (i + 1) * 6 + j - (stCells x).length = i * 6 + j by simp [stCells]; omega]
    exact stflat_get q i (by simpa using h) j hj
/-- one state of a queue -/
theorem QueQ.get {B : Nat} {w : World} {v : Value} {q : List St} (h : QueQ B w v q) {i : Nat} (hi : i < q.length) : ∃ g off cap, v = .slice (some ⟨g, off, none⟩) q.length cap ∧ g < w.heap.size ∧
    w.cell? ⟨g, off + i * 6, none⟩ = some (.int .i64 q[i].a0) ∧ w.cell? ⟨g, off + i * 6 + 1, none⟩ = some (.int .i64 q[i].a1) ∧ w.cell? ⟨g, off + i * 6 + 2, none⟩ = some (.int .i64 q[i].a2) ∧ w.cell? ⟨g, off + i * 6 + 3, none⟩ = some (.int .i64 q[i].f0) ∧ w.cell? ⟨g, off + i * 6 + 4, none⟩ = some (.int .i64 q[i].f1) ∧ w.cell? ⟨g, off + i * 6 + 5, none⟩ = some (.int .i64 q[i].f2) := by
  obtain ⟨ao, cap, rfl, h1, h2, h3⟩ := h
  obtain ⟨g, off, cur, rfl, hB, hg, h4, h5⟩ := h3 (by omega)
  have key : ∀ j u, j < 6 → (stCells q[i])[j]? = some u → w.cell? ⟨g, off + i * 6 + j, none⟩ = some u := fun j u hj hu => by
    rw [cell_of_row w g _ cur _ _ hg, Nat.add_assoc]
    exact h5 _ _ ((stflat_get q i hi j hj).trans hu)
  exact ⟨g, off, cap, rfl, row_lt hg, key 0 _ (by omega) rfl, key 1 _ (by omega) rfl, key 2 _ (by omega) rfl, key 3 _ (by omega) rfl, key 4 _ (by omega) rfl, key 5 _ (by omega) rfl⟩
/-- an append whose run is known -/
theorem oper_append_run {P : Program} {w w' : World} {o : Oper} {a : Act} {K : Act → World → Prop} {Q : Exit → Act → World → Prop} (s x : Operand) (t : TypeId)
    (hop : o.op = Op.call { callee := Callee.builtin Builtin.append, args := #[s, x], argTypes := #[t, t] }) {v x' v' : Value} (hs : a.eval s = v) (hx : a.eval x = x') (hrun : (Builtin.append_ #[t, t] o.type #[v, x']).run P w = .ok v' w')
    (hK : K (a.put o.dst v') w') : Oper.wp P o a w K Q := by
  unfold Oper.wp
  simp [execOp, hop, resolve, invoke, builtin, hs, hx, hrun, Result.andThen]
  exact hK
end Go.Proofs.YtnkgbocdpngldaaGreatDoor

/-
  The worst time: ranks, the table, what lies in memory.
-/
import Derived.Test.YtnkgbocdpngldaaGreatDoorZMach
import Derived.Test.YtnkgbocdpngldaaGreatDoorZCnt
set_option linter.unusedVariables false
set_option linter.unusedSimpArgs false
namespace Go.Proofs.YtnkgbocdpngldaaGreatDoor
open Go.RowKit Dc Dg

/-- how many rungs there are to a goal, the rung itself with them -/
def stepsM (M : Mach) (g : Nat) : Nat → Nat → Nat
  | 0, _ => 0
  | m + 1, k => if M.next g k < 0 then 1 else stepsM M g m (M.next g k).toNat + 1
theorem stepsM_le (M : Mach) (g : Nat) : ∀ (m k : Nat), stepsM M g m k ≤ m
  | 0, _ => Nat.le_refl _
  | m + 1, k => by
    rw [stepsM]
    split
    · omega
    · have := stepsM_le M g m (M.next g k).toNat; omega
theorem stepsM_more {M : Mach} {g : Nat} : ∀ (m k : Nat), endsM M g m k = true → stepsM M g (m + 1) k = stepsM M g m k
  | 0, _, h => by cases h
  | m + 1, k, h => by
    rw [stepsM]
    conv => rhs; rw [stepsM]
    rw [endsM] at h
    split
    · rfl
    · rename_i hn
      rw [if_neg hn] at h
      rw [stepsM_more m _ h]
def stepsS (M : Mach) (g k : Nat) : Nat := stepsM M g 8 k
theorem stepsS_le {M : Mach} {g k : Nat} : stepsS M g k ≤ 8 := stepsM_le M g 8 k
theorem stepsS_next {M : Mach} {g k : Nat} (L : Leads M g) (hk : k < M.rungs g) (h : 0 ≤ M.next g k) : stepsS M g k = stepsS M g (M.next g k).toNat + 1 := by
  have hnx := L.good.next g k L.lt hk
  have h1 := stepsM_more 8 k (L.eight hk)
  unfold stepsS
  rw [← h1, stepsM, if_neg (by omega)]
theorem stepsS_pos {M : Mach} {g k : Nat} : 1 ≤ stepsS M g k := by
  unfold stepsS
  rw [stepsM]
  split <;> omega
/-- a key of the table -/
abbrev WKey := Nat × Nat × Nat
def rankS (M : Mach) (g : Nat) (z : WKey) : Nat := z.2.2 * 9 + stepsS M g z.1
def memF (M : Mach) (g : Nat) (L : List WKey) (z : WKey) : Option Value := if z ∈ L then some (.int .i64 (worstS M g z.1 z.2.1 z.2.2)) else none
theorem undMemo : Tryz.prog.underlying 113 = some (.map 84 3) := by kernel_rfl
theorem zeroInt (w : World) : (zeroValue 3).run Tryz.prog w = .ok (.int .i64 0) w := by kernel_rfl
/-- the table of worst times -/
structure MemoW (M : Mach) (g : Nat) (w : World) (mt : Nat) (L : List WKey) : Prop where
  map : MapW Tryz.prog 84 encTr okTr w mt L.length L.length (memF M g L)
  nd : L.Nodup
  ok : ∀ z ∈ L, z.1 < 8 ∧ z.2.1 < 4 ∧ z.2.2 ≤ 8
theorem MemoW.len {M : Mach} {g : Nat} {w : World} {mt : Nat} {L : List WKey} (h : MemoW M g w mt L) : L.length ≤ 288 := by
  have h1 := nodup_le 288 (L.map (fun z => (z.1 * 4 + z.2.1) * 9 + z.2.2)) ((List.pairwise_map).2 (h.nd.imp_of_mem (fun {a b} ha hb hne e => by
    have h1 := h.ok a ha
    have h2 := h.ok b hb
    obtain ⟨a1, a2, a3⟩ := a
    obtain ⟨b1, b2, b3⟩ := b
    simp only at h1 h2 e
    exact hne (by have e1 : a1 = b1 := by omega
                  have e2 : a2 = b2 := by omega
                  have e3 : a3 = b3 := by omega
                  rw [e1, e2, e3])))) (fun x hx => by
    obtain ⟨z, hz, rfl⟩ := List.mem_map.1 hx
    have := h.ok z hz
    omega)
  simpa using h1
theorem MemoW.kept {M : Mach} {g : Nat} {w w' : World} {mt : Nat} {L : List WKey} (h : MemoW M g w mt L) (hb : w'.heap[mt]? = w.heap[mt]?) : MemoW M g w' mt L := ⟨h.map.same hb, h.nd, h.ok⟩
theorem MemoW.ne {M : Mach} {g : Nat} {w : World} {mt : Nat} {L : List WKey} (h : MemoW M g w mt L) {k : Nat} {cs : Array Value} {t : TypeId} {fr : Nat × Nat} (hk : w.heap[k]? = some (.cells cs t fr)) : k ≠ mt := by
  obtain ⟨D, ⟨es, clock, hb, _⟩, _⟩ := h.map
  rintro rfl
  rw [hb] at hk
  cases hk
theorem memF_put {M : Mach} {g : Nat} {L : List WKey} {z : WKey} (hz : z ∉ L) : putW (memF M g L) z (.int .i64 (worstS M g z.1 z.2.1 z.2.2)) = memF M g (L ++ [z]) := by
  funext y
  unfold putW memF
  by_cases hy : y = z
  · subst hy; rw [if_pos rfl, if_pos (by simp)]
  · rw [if_neg hy]; simp [hy]
theorem MemoW.put {M : Mach} {g : Nat} {w : World} {mt : Nat} {L : List WKey} (h : MemoW M g w mt L) {z : WKey} (hz : z ∉ L) (hok : z.1 < 8 ∧ z.2.1 < 4 ∧ z.2.2 ≤ 8) :
    ∃ w', (Instr.mapUpdate 113 (.map (some mt)) (encTr z) (.int .i64 (worstS M g z.1 z.2.1 z.2.2))).run Tryz.prog w = .ok () w' ∧ MemoW M g w' mt (L ++ [z]) ∧ w.grownBy w' (some mt) := by
  have hl := h.len
  obtain ⟨w', hr, hM, hg⟩ := h.map.store encT undMemo (by unfold maxLen; omega) (k := z) ⟨by omega, by omega, by omega⟩ (.int .i64 (worstS M g z.1 z.2.1 z.2.2))
  rw [memF_put hz] at hM
  have : (memF M g L z).isSome = false := by unfold memF; rw [if_neg hz]; rfl
  rw [this, if_neg (by simp)] at hM
  refine ⟨w', hr, ⟨by rw [List.length_append]; exact hM, List.nodup_append.2 ⟨h.nd, by simp, fun a ha b hb e => by simp at hb; subst hb; subst e; exact hz ha⟩, fun y hy => ?_⟩, hg⟩
  rcases List.mem_append.1 hy with hy | hy
  · exact h.ok y hy
  · simp at hy; subst hy; exact hok

/-- what the worst time reads of the machine and the system: of guard g -/
structure WB (w : World) (gs : List Gd) (g m bn on cn bu ou cu bb ob cb bv ov cv br orr cr : Nat) : Prop where
  n0 : w.cell? ⟨m, 1, none⟩ = some (.slice (some ⟨bn, on, none⟩) gs.length cn)
  b0 : w.cell? ⟨m, 2, none⟩ = some (.slice (some ⟨bb, ob, none⟩) gs.length cb)
  n1 : w.cell? ⟨bn, on + g, none⟩ = some (.slice (some ⟨bu, ou, none⟩) (rungsAt gs g).length cu)
  b1 : w.cell? ⟨bb, ob + g, none⟩ = some (.slice (some ⟨bv, ov, none⟩) (rungsAt gs g).length cv)
  n2 : ∀ k, k < (rungsAt gs g).length → w.cell? ⟨bu, ou + k, none⟩ = some (.int .i64 ((machOf gs).next g k))
  b2 : ∀ k, k < (rungsAt gs g).length → w.cell? ⟨bv, ov + k, none⟩ = some (.int .i64 ((machOf gs).back g k))
  t1 : ∀ k, k < (rungsAt gs g).length → w.cell? ⟨br, orr + k * 7 + 3, none⟩ = some (.int .i64 ((machOf gs).tries g k))
  t2 : ∀ k, k < (rungsAt gs g).length → w.cell? ⟨br, orr + k * 7 + 4, none⟩ = some (.int .i64 ((machOf gs).mins g k))
theorem WB.below {w w' : World} {gs : List Gd} {g m bn on cn bu ou cu bb ob cb bv ov cv br orr cr : Nat} (h : WB w gs g m bn on cn bu ou cu bb ob cb bv ov cv br orr cr) (hb : Below w.heap.size w w') : WB w' gs g m bn on cn bu ou cu bb ob cb bv ov cv br orr cr :=
  ⟨(hb.cell (block_lt_of_cell h.n0)).trans h.n0, (hb.cell (block_lt_of_cell h.b0)).trans h.b0, (hb.cell (block_lt_of_cell h.n1)).trans h.n1, (hb.cell (block_lt_of_cell h.b1)).trans h.b1, fun k hk => (hb.cell (block_lt_of_cell (h.n2 k hk))).trans (h.n2 k hk), fun k hk => (hb.cell (block_lt_of_cell (h.b2 k hk))).trans (h.b2 k hk), fun k hk => (hb.cell (block_lt_of_cell (h.t1 k hk))).trans (h.t1 k hk), fun k hk => (hb.cell (block_lt_of_cell (h.t2 k hk))).trans (h.t2 k hk)⟩
theorem wb_of {gs : List Gd} {p : Option Addr} {c : Nat} {vn vb : Value} {mb N s : Nat} {f : Nat × Nat → Option Value} {w : World} {m g : Nat} (hP : MachP w m gs p c vn vb mb N s f) (hg : g < gs.length) (hk0 : 0 < (rungsAt gs g).length) :
    ∃ bg og bn on cn bu ou cu bb ob cb bv ov cv br orr cr, p = some ⟨bg, og, none⟩ ∧ w.cell? ⟨bg, og + g * 2 + 1, none⟩ = some (.slice (some ⟨br, orr, none⟩) (rungsAt gs g).length cr) ∧ WB w gs g m bn on cn bu ou cu bb ob cb bv ov cv br orr cr := by
  obtain ⟨pn, cn, e1, hn⟩ := hP.n.at_
  obtain ⟨bn, on, e2, hbn, hn⟩ := hn (by omega)
  obtain ⟨u, hn1, hu⟩ := hn g hg
  obtain ⟨pu, cu, e3, hu⟩ := hu.at_
  have l1 : (nextL gs g).length = (rungsAt gs g).length := by simp [nextL]
  obtain ⟨bu, ou, e4, hbu, hu3⟩ := hu (by omega)
  obtain ⟨pb, cb, e5, hb⟩ := hP.b.at_
  obtain ⟨bb, ob, e6, hbb, hb⟩ := hb (by omega)
  obtain ⟨v, hb1, hv⟩ := hb g hg
  obtain ⟨pv, cv, e7, hv⟩ := hv.at_
  have l2 : (backL gs g).length = (rungsAt gs g).length := by simp [backL]
  obtain ⟨bv, ov, e8, hbv, hv3⟩ := hv (by omega)
  obtain ⟨bg, og, e9, hbg, hG⟩ := hP.G.at_ (by omega)
  obtain ⟨q, cq, t0, t1, hR⟩ := hG g hg
  have hra : rungsAt gs g = gs[g].rungs := by unfold rungsAt; rw [List.getElem?_eq_getElem hg]
  obtain ⟨br, orr, e10, hbr, hr⟩ := hR.at_ (by rw [← hra]; omega)
  subst e1; subst e2; subst e3; subst e4; subst e5; subst e6; subst e7; subst e8; subst e10
  refine ⟨bg, og, bn, on, cn, bu, ou, cu, bb, ob, cb, bv, ov, cv, br, orr, cq, e9, ?_, hP.m1, hP.m2, ?_, ?_, fun k hk => ?_, fun k hk => ?_, fun k hk => ?_, fun k hk => ?_⟩
  · rw [t1, hra]
  · rw [hn1, l1]
  · rw [hb1, l2]
  · rw [hu3 k (by omega)]; simp [nextL]
  · rw [hv3 k (by omega)]; simp [backL]
  · obtain ⟨q1, c1, q2, c2, hr⟩ := hr k (by rw [← hra]; omega)
    rw [hr.d3]
    show _ = some (Value.int .i64 (rgAt gs g k).tries)
    unfold rgAt
    rw [List.getElem?_eq_getElem hk]
    simp only [hra]
  · obtain ⟨q1, c1, q2, c2, hr⟩ := hr k (by rw [← hra]; omega)
    rw [hr.d4]
    show _ = some (Value.int .i64 (rgAt gs g k).minutes)
    unfold rgAt
    rw [List.getElem?_eq_getElem hk]
    simp only [hra]

/-- what lies about when the worst time is reckoned -/
structure WEnv (w0 w : World) (gs : List Gd) (g m mt b4 b9 b10 b11 b12 br orr cr : Nat) : Prop where
  bl : Below w0.heap.size w0 w
  lt : w0.heap.size ≤ mt
  h9 : w.heap[b9]? = some (.cells #[.pointer (some ⟨m, 0, none⟩)] 78 (0, 0))
  h4 : w.heap[b4]? = some (.cells #[.int .i64 g] 3 (0, 0))
  h11 : w.heap[b11]? = some (.cells #[.map (some mt)] 113 (0, 0))
  h12 : w.heap[b12]? = some (.cells #[.func (.func 64) #[] #[.pointer (some ⟨b9, 0, none⟩), .pointer (some ⟨b4, 0, none⟩), .pointer (some ⟨b11, 0, none⟩), .pointer (some ⟨b12, 0, none⟩), .pointer (some ⟨b10, 0, none⟩)]] 114 (0, 0))
  h10 : w.heap[b10]? = some (.cells #[.slice (some ⟨br, orr, none⟩) (rungsAt gs g).length cr] 60 (0, 0))
theorem WEnv.kept {w0 w w' : World} {gs : List Gd} {g m mt b4 b9 b10 b11 b12 br orr cr : Nat} {L : List WKey} (h : WEnv w0 w gs g m mt b4 b9 b10 b11 b12 br orr cr) (hM : MemoW (machOf gs) g w mt L) (hg : w.grownBy w' (some mt)) : WEnv w0 w' gs g m mt b4 b9 b10 b11 b12 br orr cr :=
  ⟨h.bl.grown hg h.bl.size (fun k e => by cases e; exact h.lt), h.lt,
   (hg.block _ (row_lt h.h9) (fun e => hM.ne h.h9 (Option.some.inj e))).trans h.h9, (hg.block _ (row_lt h.h4) (fun e => hM.ne h.h4 (Option.some.inj e))).trans h.h4, (hg.block _ (row_lt h.h11) (fun e => hM.ne h.h11 (Option.some.inj e))).trans h.h11, (hg.block _ (row_lt h.h12) (fun e => hM.ne h.h12 (Option.some.inj e))).trans h.h12, (hg.block _ (row_lt h.h10) (fun e => hM.ne h.h10 (Option.some.inj e))).trans h.h10⟩
end Go.Proofs.YtnkgbocdpngldaaGreatDoor

/-
  A queue of states: a slice that is cut at its head and grows at its end.
-/
import Derived.Test.YtnkgbocdpngldaaGreatDoorZRev
import Derived.Test.YtnkgbocdpngldaaGreatDoorZLock10
import Derived.ArgAppend
set_option linter.unusedVariables false
set_option linter.unusedSimpArgs false
namespace Go.Proofs.YtnkgbocdpngldaaGreatDoor
open Go.RowKit Dc Dg

def stCells (x : St) : List Value := [.int .i64 x.a0, .int .i64 x.a1, .int .i64 x.a2, .int .i64 x.f0, .int .i64 x.f1, .int .i64 x.f2]
theorem stflat_len (L : List St) : (L.flatMap stCells).length = L.length * 6 := by
  induction L with
  | nil => rfl
  | cons x L ih => rw [List.flatMap_cons, List.length_append, ih]; simp [stCells]; omega
/-- a queue in memory, from B on -/
def QueQ (B : Nat) (w : World) (v : Value) (q : List St) : Prop := ∃ ao cap, v = .slice ao q.length cap ∧ q.length ≤ cap ∧ cap ≤ maxLen ∧
  (0 < cap → ∃ g off cur, ao = some ⟨g, off, none⟩ ∧ B ≤ g ∧ w.heap[g]? = some (.cells cur 87 (0, 0)) ∧ off + cap * 6 ≤ cur.size ∧ ∀ j u, (q.flatMap stCells)[j]? = some u → cur[off + j]? = some u)
theorem QueQ.start {B : Nat} {w : World} {b : Nat} {x : St} (h : StP w b x) (hb : B ≤ b) : QueQ B w (.slice (some ⟨b, 0, none⟩) 1 1) [x] := by
  refine ⟨_, _, rfl, Nat.le_refl _, by unfold maxLen; omega, fun _ => ⟨b, 0, _, rfl, hb, h, by simp, fun j u hu => ?_⟩⟩
  simp only [List.flatMap_cons, List.flatMap_nil, List.append_nil, stCells] at hu
  rw [Nat.zero_add]
  simpa using hu
theorem QueQ.same {B : Nat} {w w' : World} {v : Value} {q : List St} (h : QueQ B w v q) (hs : ∀ k, v.ownBlock = some k → k < w.heap.size → w'.heap[k]? = w.heap[k]?) : QueQ B w' v q := by
  obtain ⟨ao, cap, rfl, h1, h2, h3⟩ := h
  refine ⟨ao, cap, rfl, h1, h2, fun hc => ?_⟩
  obtain ⟨g, off, cur, rfl, hB, hg, h4⟩ := h3 hc
  exact ⟨g, off, cur, rfl, hB, (hs g rfl (Array.getElem?_eq_some_iff.1 hg).1).trans hg, h4⟩
theorem QueQ.below {B : Nat} {w w' : World} {v : Value} {q : List St} (h : QueQ B w v q) (hb : Below w.heap.size w w') : QueQ B w' v q := h.same (fun k _ hk => hb.block k hk)
/-- the block of a queue that is not empty -/
theorem QueQ.block {B : Nat} {w : World} {v : Value} {q : List St} (h : QueQ B w v q) (hq : q ≠ []) : ∃ g cur, v.ownBlock = some g ∧ B ≤ g ∧ w.heap[g]? = some (.cells cur 87 (0, 0)) := by
  obtain ⟨ao, cap, rfl, h1, h2, h3⟩ := h
  have : 0 < q.length := List.length_pos_iff.2 hq
  obtain ⟨g, off, cur, rfl, hB, hg, h4⟩ := h3 (by omega)
  exact ⟨g, cur, rfl, hB, hg⟩
theorem QueQ.len {B : Nat} {w : World} {v : Value} {q : List St} (h : QueQ B w v q) : ∃ ao cap, v = .slice ao q.length cap := by
  obtain ⟨ao, cap, rfl, _⟩ := h
  exact ⟨ao, cap, rfl⟩
theorem QueQ.head {B : Nat} {w : World} {v : Value} {x : St} {q : List St} (h : QueQ B w v (x :: q)) : ∃ g off cap, v = .slice (some ⟨g, off, none⟩) (q.length + 1) cap ∧
    w.cell? ⟨g, off, none⟩ = some (.int .i64 x.a0) ∧ w.cell? ⟨g, off + 1, none⟩ = some (.int .i64 x.a1) ∧ w.cell? ⟨g, off + 2, none⟩ = some (.int .i64 x.a2) ∧ w.cell? ⟨g, off + 3, none⟩ = some (.int .i64 x.f0) ∧ w.cell? ⟨g, off + 4, none⟩ = some (.int .i64 x.f1) ∧ w.cell? ⟨g, off + 5, none⟩ = some (.int .i64 x.f2) := by
  obtain ⟨ao, cap, rfl, h1, h2, h3⟩ := h
  simp only [List.length_cons] at h1
  obtain ⟨g, off, cur, rfl, hB, hg, h4, h5⟩ := h3 (by omega)
  refine ⟨g, off, cap, by simp, ?_, ?_, ?_, ?_, ?_, ?_⟩
  · exact (cell_of_row w g off cur _ _ hg).trans (h5 0 _ (by simp [stCells]))
  · exact (cell_of_row w g _ cur _ _ hg).trans (h5 1 _ (by simp [stCells]))
  · exact (cell_of_row w g _ cur _ _ hg).trans (h5 2 _ (by simp [stCells]))
  · exact (cell_of_row w g _ cur _ _ hg).trans (h5 3 _ (by simp [stCells]))
  · exact (cell_of_row w g _ cur _ _ hg).trans (h5 4 _ (by simp [stCells]))
  · exact (cell_of_row w g _ cur _ _ hg).trans (h5 5 _ (by simp [stCells]))
theorem undSt : Tryz.prog.underlying 103 = some (.slice 87) := by kernel_rfl
theorem infoSt : (Tryz.prog.info? 87).map (fun i => (i.zero, i.size, i.bytes)) = some (some (.agg #[.int .i64 0, .int .i64 0, .int .i64 0, .int .i64 0, .int .i64 0, .int .i64 0]), 6, 48) := by kernel_rfl
theorem elemSt : Tryz.prog.elem 103 = 87 := by kernel_rfl
theorem sizeSt (w : World) : (sizeOf 87).run Tryz.prog w = .ok 6 w := by kernel_rfl
/-- the queue without its head -/
theorem QueQ.tail {B : Nat} {w : World} {v : Value} {x : St} {q : List St} (h : QueQ B w v (x :: q)) : ∃ v', (Instr.slice 103 v (some (.int .i64 1)) none none).run Tryz.prog w = .ok v' w ∧ QueQ B w v' q ∧ ∀ k, v'.ownBlock = some k → v.ownBlock = some k := by
  obtain ⟨ao, cap, rfl, h1, h2, h3⟩ := h
  simp only [List.length_cons] at h1
  obtain ⟨g, off, cur, rfl, hB, hg, h4, h5⟩ := h3 (by omega)
  have hr := run_slice_l (P := Tryz.prog) (w := w) 103 (some ⟨g, off, none⟩) (q.length + 1) cap (by rw [elemSt]; exact undSt) .i64 1 (by omega) (by omega)
  rw [elemSt, sizeSt] at hr
  simp only [Result.andThen, sliced] at hr
  refine ⟨_, hr, ?_, ?_⟩
  · rw [show (1 : Int).toNat = 1 from rfl, show q.length + 1 - 1 = q.length from by omega]
    by_cases hc : cap = 1
    · have hq : q.length = 0 := by omega
      refine ⟨_, _, rfl, by omega, by omega, fun h => by omega⟩
    · rw [if_neg hc]
      refine ⟨_, _, rfl, by omega, by omega, fun _ => ⟨g, off + 6, cur, ?_, hB, hg, by omega, fun j u hu => ?_⟩⟩
      · simp [Addr.add]
      · have := h5 (6 + j) u (by rw [List.flatMap_cons, List.getElem?_append_right (by simp [stCells])]; simpa [stCells] using hu)
        rwa [← Nat.add_assoc] at this
  · intro k hk
    split at hk
    · exact hk
    · simpa [Addr.add, Value.ownBlock] using hk

/-- the world behind the store of cells in a block -/
theorem setCells_row (g : Nat) (t : TypeId) : ∀ (news : List Value) (off : Nat) (w : World) (cur : Array Value), w.heap[g]? = some (.cells cur t (0, 0)) → off + news.length ≤ cur.size →
    ∃ cur', (w.setCells g off news).heap[g]? = some (.cells cur' t (0, 0)) ∧ cur'.size = cur.size ∧ (∀ j, j < off → cur'[j]? = cur[j]?) ∧ (∀ j, j < news.length → cur'[off + j]? = news[j]?)
  | [], off, w, cur, h, _ => ⟨cur, h, rfl, fun _ _ => rfl, fun j hj => by simp at hj⟩
  | x :: l, off, w, cur, h, hl => by
    simp only [List.length_cons] at hl
    obtain ⟨cur', h1, h2, h3, h4⟩ := setCells_row g t l (off + 1) (w.setCell ⟨g, off, none⟩ x) (cur.setIfInBounds off x) (heap_setCell_same w g off cur t x h) (by simp; omega)
    refine ⟨cur', h1, by simpa using h2, fun j hj => ?_, fun j hj => ?_⟩
    · rw [h3 j (by omega), Array.getElem?_setIfInBounds_ne (by omega)]
    · cases j with
      | zero => rw [Nat.add_zero, h3 off (by omega)]; simp [Array.getElem?_setIfInBounds]; omega
      | succ j =>
        have := h4 j (by simp at hj; omega)
        rw [show off + (j + 1) = off + 1 + j from by omega, this]; rfl
theorem setCells_other (g : Nat) : ∀ (news : List Value) (off : Nat) (w : World) (k : Nat), k ≠ g → (w.setCells g off news).heap[k]? = w.heap[k]?
  | [], _, _, _, _ => rfl
  | x :: l, off, w, k, h => (setCells_other g l (off + 1) (w.setCell ⟨g, off, none⟩ x) k h).trans (heap_setCell_other w _ k x h)
theorem setCells_size (g : Nat) : ∀ (news : List Value) (off : Nat) (w : World), (w.setCells g off news).heap.size = w.heap.size
  | [], _, _ => rfl
  | x :: l, off, w => (setCells_size g l (off + 1) (w.setCell ⟨g, off, none⟩ x)).trans (by simp [World.setCell])
theorem setCells_grown (g : Nat) : ∀ (news : List Value) (off : Nat) (w : World), w.grownBy (w.setCells g off news) (some g)
  | [], _, w => ⟨rfl, rfl, rfl, Nat.le_refl _, fun _ _ _ => rfl⟩
  | x :: l, off, w => by
    have h1 : w.grownBy (w.setCell ⟨g, off, none⟩ x) (some g) := ⟨rfl, rfl, rfl, by simp [World.setCell], fun k _ hn => heap_setCell_other w _ k x (fun e => hn (by rw [e]))⟩
    exact h1.trans (setCells_grown g l (off + 1) _)
/-- a state is appended -/
theorem run_app_q (w : World) (ty : TypeId) {B : Nat} {v : Value} {q : List St} (h : QueQ B w v q) (hB : B ≤ w.heap.size) (hq : q.length ≤ 1000000) {b : Nat} {x : St} (hx : StP w b x) :
    ∃ v' w', (Builtin.append_ #[103, 103] ty #[v, .slice (some ⟨b, 0, none⟩) 1 1]).run Tryz.prog w = .ok v' w' ∧ QueQ B w' v' (q ++ [x]) ∧ w.grownBy w' v.ownBlock ∧ (v'.ownBlock = v.ownBlock ∨ ∃ k, v'.ownBlock = some k ∧ w.heap.size ≤ k) := by
  obtain ⟨i0, hi, hz0, hz1, hz2⟩ := info_parts infoSt
  obtain ⟨ao, cap, rfl, h1, h2, h3⟩ := h
  have hnews : ∀ j u, (stCells x)[j]? = some u → w.cell? ((⟨b, 0, none⟩ : Addr).add j) = some u := by
    intro j u hu
    rw [Addr.add_lit, Nat.zero_add, StP.cell hx]
    simpa [stCells] using hu
  have hone : ∀ u ∈ stCells x, u.oneCell' = true := by
    intro u hu
    simp only [stCells, List.mem_cons, List.not_mem_nil, or_false] at hu
    rcases hu with rfl | rfl | rfl | rfl | rfl | rfl <;> rfl
  have hflat : ((q ++ [x]).flatMap stCells) = q.flatMap stCells ++ stCells x := by simp
  -- a new row
  have fresh : ∀ v' w', w'.ownsRow w.heap.size 87 6 v' (q.length + 1) (q.flatMap stCells ++ stCells x) → w.grownBy w' none → QueQ B w' v' (q ++ [x]) ∧ w.grownBy w' (Value.slice ao q.length cap).ownBlock ∧ (v'.ownBlock = (Value.slice ao q.length cap).ownBlock ∨ ∃ k, v'.ownBlock = some k ∧ w.heap.size ≤ k) := by
    intro v' w' ho hg
    refine ⟨?_, ⟨hg.os, hg.tape, hg.output, hg.size, fun k hk _ => hg.block k hk (by simp)⟩, ?_⟩
    rotate_left
    · rcases ho.2 with ⟨_, h0⟩ | ⟨g, cap', cur, rfl, hb, hg2, hnc, hcm, hcs, htk⟩
      · omega
      · exact Or.inr ⟨g, rfl, hb⟩
    rcases ho.2 with ⟨_, h0⟩ | ⟨g, cap', cur, rfl, hb, hg2, hnc, hcm, hcs, htk⟩
    · omega
    · refine ⟨_, _, by simp, by simpa using hnc, hcm, fun _ => ⟨g, 0, cur, rfl, by omega, hg2, by omega, fun j u hu => ?_⟩⟩
      rw [hflat] at hu
      have := World.ownsRow.cells ho (g := g) rfl j u hu
      rw [addr_add, Nat.zero_add] at this
      rw [Nat.zero_add, ← cell_of_row w' g j cur _ _ hg2]
      exact this
  by_cases hr : q.length + 1 ≤ cap
  · obtain ⟨g, off, cur, rfl, hBg, hg, h4, h5⟩ := h3 (by omega)
    have hrun := run_append_room_cells (P := Tryz.prog) w 103 ty 87 i0 undSt hi g off q.length cap ⟨b, 0, none⟩ 1 1 (stCells x) (by rw [hz1]; rfl) hnews hone hr
      (fun j hj => by
        rw [hz1, cell_of_row w g _ cur _ _ hg]
        have : off + q.length * 6 + j < cur.size := by simp [stCells] at hj; omega
        rw [Array.getElem?_eq_getElem this]; rfl)
      (fun j _ => frozen_of_row w g _ cur _ hg)
    rw [hz1] at hrun
    obtain ⟨cur', k1, k2, k3, k4⟩ := setCells_row g 87 (stCells x) (off + q.length * 6) w cur hg (by simp [stCells]; omega)
    refine ⟨_, _, hrun, ⟨_, _, by simp, by simpa using hr, h2, fun _ => ⟨g, off, cur', rfl, hBg, k1, by omega, fun j u hu => ?_⟩⟩, setCells_grown g _ _ w, Or.inl rfl⟩
    rw [hflat] at hu
    by_cases hj : j < q.length * 6
    · rw [List.getElem?_append_left (by rw [stflat_len]; exact hj)] at hu
      rw [k3 _ (by omega)]
      exact h5 j u hu
    · rw [List.getElem?_append_right (by rw [stflat_len]; omega), stflat_len] at hu
      have hl : j - q.length * 6 < (stCells x).length := (List.getElem?_eq_some_iff.1 hu).1
      have := k4 _ hl
      rw [show off + q.length * 6 + (j - q.length * 6) = off + j from by omega] at this
      rw [this]; exact hu
  · by_cases hc : 0 < cap
    · obtain ⟨g, off, cur, rfl, hBg, hg, h4, h5⟩ := h3 hc
      obtain ⟨v', w', hrun, r1, r2⟩ := run_append_arg_grows (P := Tryz.prog) w 103 ty 87 i0 _ 6 48 undSt hi hz0 hz1 hz2 rfl (by decide) ⟨g, off, none⟩ q.length cap (q.flatMap stCells) (stflat_len q)
        (fun j u hu => by rw [Addr.add_lit, cell_of_row w g _ cur _ _ hg]; exact h5 j u hu) ⟨b, 0, none⟩ 1 1 (stCells x) rfl hnews (by omega) (by unfold maxLen; omega) (by omega)
      obtain ⟨f1, f2⟩ := fresh v' w' r1 r2
      exact ⟨v', w', hrun, f1, f2⟩
    · obtain rfl : cap = 0 := by omega
      have hq0 : q = [] := List.eq_nil_of_length_eq_zero (by omega)
      subst hq0
      cases ao with
      | none =>
        obtain ⟨v', w', hrun, r1, r2, _⟩ := run_append_own (P := Tryz.prog) w w.heap.size 103 ty 87 i0 _ 6 48 undSt hi hz0 hz1 hz2 rfl (by decide) (.slice none 0 0) 0 [] (World.ownsRow_nil w _ _ 6) ⟨b, 0, none⟩ 1 1 (stCells x) rfl hnews hone (by unfold maxLen; omega) (by omega) (Nat.le_refl _)
        obtain ⟨f1, f2⟩ := fresh v' w' (by simpa using r1) ⟨r2.os, r2.tape, r2.output, r2.size, fun k hk _ => r2.block k hk (by simp [Value.ownBlock])⟩
        exact ⟨v', w', hrun, f1, f2⟩
      | some a' =>
        obtain ⟨v', w', hrun, r1, r2⟩ := run_append_arg_grows (P := Tryz.prog) w 103 ty 87 i0 _ 6 48 undSt hi hz0 hz1 hz2 rfl (by decide) a' 0 0 [] (by simp) (by intro _ _ h'; simp at h') ⟨b, 0, none⟩ 1 1 (stCells x) rfl hnews (by omega) (by unfold maxLen; omega) (by omega)
        obtain ⟨f1, f2⟩ := fresh v' w' (by simpa using r1) r2
        exact ⟨v', w', hrun, f1, f2⟩
end Go.Proofs.YtnkgbocdpngldaaGreatDoor

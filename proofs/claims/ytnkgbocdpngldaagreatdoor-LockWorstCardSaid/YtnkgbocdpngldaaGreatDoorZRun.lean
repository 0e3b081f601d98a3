/-
  Statuses in a row.
  Run of package lock.
-/
import Derived.Test.YtnkgbocdpngldaaGreatDoorZPlay2
set_option linter.unusedVariables false
set_option linter.unusedSimpArgs false
namespace Go.Proofs.YtnkgbocdpngldaaGreatDoor
open Go.RowKit Dc Dg

/-- statuses in a row of their own, with the rows that they lead to -/
structure StatsR (B n : Nat) (w : World) (v : Value) (L : List (St × Value × Value)) : Prop where
  row : w.ownsRow B 41 2 v L.length (L.flatMap fun t => [t.2.1, t.2.2])
  ints : ∀ t ∈ L, IntR B w t.2.1 (atL n t.1) ∧ IntR B w t.2.2 (failL n t.1)
theorem StatsR.near {B n : Nat} {w w' : World} {v : Value} {L : List (St × Value × Value)} (h : StatsR B n w v L) (hs : ∀ k, B ≤ k → k < w.heap.size → w'.heap[k]? = w.heap[k]?) : StatsR B n w' v L :=
  ⟨row_same h.row (fun k hk => by obtain ⟨h1, h2, _⟩ := row_type h.row hk; exact hs k h1 h2), fun t ht => ⟨(h.ints t ht).1.near hs, (h.ints t ht).2.near hs⟩⟩
theorem StatsR.below {B n : Nat} {w w' : World} {v : Value} {L : List (St × Value × Value)} (h : StatsR B n w v L) (hb : Below w.heap.size w w') : StatsR B n w' v L := h.near (fun k _ hk => hb.block k hk)
theorem StatsR.base {B B' n : Nat} {w : World} {v : Value} {L : List (St × Value × Value)} (h : StatsR B n w v L) (hb : B' ≤ B) : StatsR B' n w v L := ⟨row_base h.row hb, fun t ht => ⟨(h.ints t ht).1.base hb, (h.ints t ht).2.base hb⟩⟩
theorem StatsR.nil (B n : Nat) (w : World) : StatsR B n w (.slice none 0 0) [] := ⟨World.ownsRow_nil _ _ _ _, fun t ht => by cases ht⟩
theorem StatsR.slice {B n : Nat} {w : World} {v : Value} {L : List (St × Value × Value)} (h : StatsR B n w v L) : ∃ a c, v = .slice a L.length c := by
  rcases h.row.2 with ⟨rfl, hn⟩ | ⟨g, cap, cur, rfl, _⟩
  · exact ⟨none, 0, by rw [hn]⟩
  · exact ⟨_, _, rfl⟩
/-- one status of a row -/
theorem StatsR.get {B n : Nat} {w : World} {v : Value} {L : List (St × Value × Value)} (h : StatsR B n w v L) {i : Nat} (hi : i < L.length) : ∃ g cap, v = .slice (some ⟨g, 0, none⟩) L.length cap ∧ g < w.heap.size ∧ w.cell? ⟨g, 0 + i * 2, none⟩ = some L[i].2.1 ∧ w.cell? ⟨g, 0 + i * 2 + 1, none⟩ = some L[i].2.2 ∧ IntR B w L[i].2.1 (atL n L[i].1) ∧ IntR B w L[i].2.2 (failL n L[i].1) := by
  rcases h.row.2 with ⟨rfl, hn⟩ | ⟨g, cap, cur, rfl, hb, hg, h3⟩
  · omega
  · obtain ⟨f1, f2⟩ := flat_two (fun t : St × Value × Value => t.2.1) (fun t => t.2.2) L i hi
    have c1 := World.ownsRow.cells h.row (g := g) rfl _ _ f1
    have c2 := World.ownsRow.cells h.row (g := g) rfl _ _ f2
    rw [addr_add] at c1 c2
    exact ⟨g, cap, rfl, row_lt hg, c1, by rw [Nat.add_assoc]; exact c2, (h.ints _ (List.getElem_mem hi)).1, (h.ints _ (List.getElem_mem hi)).2⟩
theorem infoStat : (Tryz.prog.info? 41).map (fun i => (i.zero, i.size, i.bytes)) = some (some (.agg #[.slice none 0 0, .slice none 0 0]), 2, 48) := by kernel_rfl
theorem undStat : Tryz.prog.underlying 36 = some (.slice 41) := by kernel_rfl
/-- a status is appended -/
theorem app_stat {o : Oper} {a : Act} {w : World} {K : Act → World → Prop} {Q : Exit → Act → World → Prop} (s x : Operand) (ho : o.op = .call { callee := .builtin .append, args := #[s, x], argTypes := #[36, 36] })
    (B n : Nat) (v : Value) (L : List (St × Value × Value)) (hs : a.eval s = v) (hr : StatsR B n w v L) (hl : L.length ≤ 1000000) (hB : B ≤ w.heap.size) (b : Nat) (u1 u2 : Value) (hx : a.eval x = .slice (some ⟨b, 0, none⟩) 1 1) (hb0 : w.cell? ⟨b, 0, none⟩ = some u1) (hb1 : w.cell? ⟨b, 1, none⟩ = some u2)
    (y : St) (h1 : IntR B w u1 (atL n y)) (h2 : IntR B w u2 (failL n y))
    (h : ∀ g cap w', StatsR B n w' (.slice (some ⟨g, 0, none⟩) (L.length + 1) cap) (L ++ [(y, u1, u2)]) → w.grownBy w' v.ownBlock → K (a.put o.dst (.slice (some ⟨g, 0, none⟩) (L.length + 1) cap)) w') : o.wp Tryz.prog a w K Q := by
  obtain ⟨i0, hi, hz0, hz1, hz2⟩ := info_parts infoStat
  have o1 : u1.oneCell' = true := by obtain ⟨_, _, rfl⟩ := h1.slice; rfl
  have o2 : u2.oneCell' = true := by obtain ⟨_, _, rfl⟩ := h2.slice; rfl
  refine wp_append_lies w s x 36 ho B 41 i0 (.agg #[.slice none 0 0, .slice none 0 0]) 2 48 undStat hi hz0 hz1 hz2 rfl (by decide) v L.length _ hs hr.row ⟨b, 0, none⟩ 1 1 [u1, u2] hx rfl (fun j u hj => ?_) (fun u hu => ?_) (by decide) (by unfold maxLen; omega) (by omega) hB _ rfl (fun g cap w' r1 r2 r3 r4 => ?_)
  · match j, hj with
    | 0, hj => simp at hj; subst hj; simpa [Addr.add] using hb0
    | 1, hj => simp at hj; subst hj; simpa [Addr.add] using hb1
  · simp at hu
    rcases hu with rfl | rfl
    · exact o1
    · exact o2
  · have e : (L ++ [(y, u1, u2)]).length = L.length + 1 := by simp
    have keep : ∀ (z : Value) (zs : List Int), IntR B w z zs → IntR B w' z zs := fun z zs hz => hz.same (fun k hk => by
      obtain ⟨_, hk2, _⟩ := row_type hz hk
      exact r2.block k hk2 (fun e2 => rows_apart hr.row hz (by decide) e2.symm hk))
    refine h g cap w' ⟨?_, fun t ht => ?_⟩ r2
    · rw [e, List.flatMap_append]
      exact r1
    · rcases List.mem_append.1 ht with ht | ht
      · exact ⟨keep _ _ (hr.ints t ht).1, keep _ _ (hr.ints t ht).2⟩
      · simp at ht
        subst ht
        exact ⟨keep _ _ h1, keep _ _ h2⟩
end Go.Proofs.YtnkgbocdpngldaaGreatDoor

namespace Go.Proofs.YtnkgbocdpngldaaGreatDoor
open Go.RowKit Dc Dg

/-- the states behind the events of a run -/
def runStates (gs : List Gd) (l : List Ev) : List St := if playE gs l = 0 then (statesS (machOf gs) St.zero l).tail else []
def RunQ (w : World) (gs : List Gd) (l : List Ev) (e : Ending) (w' : World) : Prop :=
  Below w.heap.size w w' ∧ ∃ v L, e = .returned (.tuple #[v, .int .i64 (playE gs l)]) ∧ StatsR w.heap.size gs.length w' v L ∧ L.map (·.1) = runStates gs l
/-- between two statuses -/
structure RunR (w3 wr : World) (gs : List Gd) (qs : List St) (i : Nat) (v : Value) : Prop where
  below : Below w3.heap.size w3 wr
  ex : ∃ L, StatsR w3.heap.size gs.length wr v L ∧ L.map (·.1) = qs.take i
theorem states_cons (M : Mach) (x : St) (l : List Ev) : ∃ t, statesS M x l = x :: t ∧ (statesS M x l).tail = t ∧ t.length = l.length := by
  cases l with
  | nil => exact ⟨[], rfl, rfl, rfl⟩
  | cons v l => exact ⟨statesS M (moveS M x v) l, rfl, rfl, by rw [states_length]; rfl⟩
set_option maxRecDepth 100000 in
set_option maxHeartbeats 8000000 in
theorem runN (gs : List Gd) (p : Option Addr) (c : Nat) (v : Value) (l : List Ev) (w : World) (hP : SysP w p c gs) (hE : EvsQ w v l) (hlen : (l.length : Int) ≤ 9223372036854775807) :
    Calls Tryz.prog 17 #[.agg #[.slice p gs.length c], v] w (RunQ w gs l) := by
  have hb1 : Below w.heap.size w (w.alloc (.cells #[.slice p gs.length c] 24)) := (Below.refl _ _).alloc (Nat.le_refl _) _
  have s0 := heap_alloc_new w (.cells #[.slice p gs.length c] 24)
  have P1 := hP.below hb1
  have E1 := hE.below hb1
  have c0 := blk_cell s0 0
  go_enter Tryz.func17, Tryz.ntmps17
  go_upto_region 1 with fail
  generalize w.alloc (.cells #[.slice p gs.length c] 24) = w1 at *
  go_wp2_with fail
  refine (playedN gs p c v l w1 P1 E1 hlen).mono ?_
  rintro e w2 ⟨hb2, hQ⟩
  have HB2 := hb1.trans (hb2.mono hb1.size)
  rcases hQ with ⟨hne, rfl⟩ | ⟨hpe, mB, vn, vb, mb, Nm, sm, f, qv, rfl, hM, hq⟩
  · obtain ⟨n, hn⟩ : ∃ n, n = playE gs l := ⟨_, rfl⟩
    rw [← hn] at hne ⊢
    have hd : (n != 0) = true := by simp [hne]
    have HN := Lib.hid hn
    have HNE := Lib.hid hne
    clear hn hne
    go_wp2_with fail
    go_ret2
    refine ⟨HB2, _, [], ?_, StatsR.nil _ _ _, ?_⟩
    · rw [← HN.out]; rfl
    · unfold runStates
      rw [← HN.out, if_neg HNE.out]; rfl
  · have HPE := Lib.hid hpe
    obtain ⟨qs, hqs, hqt, hql⟩ := states_cons (machOf gs) St.zero l
    rw [hqs] at hq
    have hrs : runStates gs l = qs := by unfold runStates; rw [if_pos hpe, hqt]
    have hlen2 : l.length ≤ 256 := by
      unfold playE at hpe
      split at hpe
      · split at hpe
        · cases hpe
        · omega
      · cases hpe
    rw [← hql] at hlen2
    have HRS := Lib.hid hrs
    clear hrs hqt hql hpe hqs hlen
    obtain ⟨qt, hsl, hqq, hsub⟩ := hq.tail
    obtain ⟨aq, cq, eq⟩ := hq.len
    obtain ⟨at_, ct, et⟩ := hqq.len
    obtain ⟨nq, hnq⟩ : ∃ nq, nq = (St.zero :: qs).length := ⟨_, rfl⟩
    obtain ⟨nt, hnt⟩ : ∃ nt, nt = qs.length := ⟨_, rfl⟩
    rw [← hnq] at eq
    rw [← hnt] at et hlen2
    subst eq
    subst et
    have HNT := Lib.hid hnt
    clear hnq hnt hsub hq
    have R0 : RunR w2 w2 gs qs 0 (.slice none 0 0) := ⟨Below.refl _ _, [], StatsR.nil _ _ _, rfl⟩
    go_wp2_with fail
    clear hsl
    have HQT := Lib.hid hqq
    have hMz := Lib.hid hM
    clear hqq hM
    obtain ⟨hl1, hl3⟩ : 1 ≤ gs.length ∧ gs.length ≤ 3 := sys_len (by have := HPE.out; unfold playE at this; by_cases h : sysS gs = true; exact h; rw [if_neg h] at this; cases this)
    go_loopw [25, 9] (fun s25 s9 wr => ∃ i : Nat, s25 = .int .i64 i ∧ i ≤ nt ∧ RunR w2 wr gs qs i s9) (fun s25 _ _ => nt - (intOf s25).toNat)
    case atStart => exact ⟨0, rfl, by omega, R0⟩
    case round =>
      clear R0
      obtain ⟨i, rfl, hi, hR⟩ := hrel
      by_cases hin : i < nt
      · have hil : i < qs.length := by have := HNT.out; omega
        obtain ⟨L, hL, hLm⟩ := hR.ex
        have hLl : L.length = i := by have := congrArg List.length hLm; simp only [List.length_map, List.length_take] at this; omega
        have hqr := HQT.out.below (hR.below.mono (Nat.le_refl _))
        obtain ⟨g, off, cap, e1, hgl, q0, q1, q2, q3, q4, q5⟩ := hqr.get hil
        have e2 : at_ = some ⟨g, off, none⟩ ∧ cap = ct := by
          simp only [Value.slice.injEq] at e1
          exact ⟨e1.1, e1.2.2.symm⟩
        obtain ⟨rfl, rfl⟩ := e2
        obtain ⟨y, hy⟩ : ∃ y, y = qs[i] := ⟨_, rfl⟩
        rw [← hy] at q0 q1 q2 q3 q4 q5
        have HY := Lib.hid hy
        have HLM := Lib.hid hLm
        have HLL := Lib.hid hLl
        have hMr := hMz.out.below hR.below
        have hbA : Below w2.heap.size w2 (wr.alloc (.cells #[.int .i64 y.a0, .int .i64 y.a1, .int .i64 y.a2, .int .i64 y.f0, .int .i64 y.f1, .int .i64 y.f2] 87)) := hR.below.alloc hR.below.size _
        have hbA' := (Below.refl wr.heap.size wr).alloc (Nat.le_refl _) (.cells #[.int .i64 y.a0, .int .i64 y.a1, .int .i64 y.a2, .int .i64 y.f0, .int .i64 y.f1, .int .i64 y.f2] 87)
        have k0 := StP.new wr y
        have hLA := hL.below hbA'
        have hMA := hMr.below hbA'
        obtain ⟨ao, co, hvo⟩ := hL.slice
        subst hvo
        clear hy hLm hqr e1 hLl
        go_upto_region 8 with fail
        generalize wr.alloc (.cells #[.int .i64 y.a0, .int .i64 y.a1, .int .i64 y.a2, .int .i64 y.f0, .int .i64 y.f1, .int .i64 y.f2] 87) = wa at *
        have z0 := k0.cell 0; have z1 := k0.cell 1; have z2 := k0.cell 2; have z3 := k0.cell 3; have z4 := k0.cell 4; have z5 := k0.cell 5
        clear q0 q1 q2 q3 q4 q5 hbA' hL hMr hR hgl
        refine wp_region_lit ?_
        refine wpList_plain rfl (fun K hK => ?_)
        go_simp
        refine hK _ _ ?_
        clear hK K
        try simp only [Act.put, List.setIfInBounds_toArray, List.set_cons_zero, List.set_cons_succ]
        refine wpList_plain rfl (fun K hK => ?_)
        go_simp
        refine hK _ _ ?_
        clear hK K
        try simp only [Act.put, List.setIfInBounds_toArray, List.set_cons_zero, List.set_cons_succ]
        refine wpList_plain rfl (fun K hK => ?_)
        go_simp
        refine hK _ _ ?_
        clear hK K
        try simp only [Act.put, List.setIfInBounds_toArray, List.set_cons_zero, List.set_cons_succ]
        refine wpList_plain rfl (fun K hK => ?_)
        go_simp
        refine (statusN gs p c mB y wa hMA.m0 hl3).mono ?_
        rintro e wb ⟨vs, rfl, ⟨u1, u2, rfl, hu1, hu2⟩, hbB⟩
        obtain ⟨p1, c1, rfl⟩ := hu1.slice
        obtain ⟨p2, c2, rfl⟩ := hu2.slice
        refine hK _ _ ?_
        clear hK K
        try simp only [Act.put, List.setIfInBounds_toArray, List.set_cons_zero, List.set_cons_succ]
        refine wpList_plain rfl (fun K hK => ?_)
        go_simp
        refine hK _ _ ?_
        clear hK K
        try simp only [Act.put, List.setIfInBounds_toArray, List.set_cons_zero, List.set_cons_succ]
        have hbC : Below wb.heap.size wb (wb.alloc (.cells #[.slice p1 (atL gs.length y).length c1, .slice p2 (failL gs.length y).length c2] 41)) := (Below.refl _ _).alloc (Nat.le_refl _) _
        have HBC := (hbA.trans (hbB.mono hbA.size)).trans (hbC.mono (Nat.le_trans hbA.size hbB.size))
        refine wpList_plain rfl (fun K hK => ?_)
        refine app_stat _ _ rfl w2.heap.size gs.length _ L rfl ((hLA.below hbB).below hbC) (by have := HLL.out; omega) HBC.size wb.heap.size _ _ rfl (alloc_cell wb _ 41 0 _ rfl) (alloc_cell wb _ 41 1 _ rfl) y ((hu1.below hbC).base hbA.size) ((hu2.below hbC).base hbA.size) ?_
        intro gn cn wd hLd hgd
        refine hK _ _ ?_
        have hRd : RunR w2 wd gs qs (i + 1) (.slice (some ⟨gn, 0, none⟩) (L.length + 1) cn) := by
          refine ⟨HBC.grown hgd HBC.size (fun k hk => (row_type ((hLA.below hbB).below hbC).row hk).1), _, hLd, ?_⟩
          rw [List.map_append, HLM.out, List.take_add_one, List.getElem?_eq_getElem hil, ← HY.out]
          rfl
        clear hK K hgd hLd HBC hbC hbB hbA hLA hMA hu1 hu2 z0 z1 z2 z3 z4 z5 k0
        try simp only [Act.put, List.setIfInBounds_toArray, List.set_cons_zero, List.set_cons_succ]
        go_wp2_with fail
        go_roundw
        case rel => exact ⟨i + 1, by go_num, by omega, hRd⟩
        case measure => simp [intOf]; omega
      · have hie : i = nt := by omega
        subst hie
        obtain ⟨L, hL, hLm⟩ := hR.ex
        have hbr := hR.below
        clear hin hi hR
        go_wp2_with fail
        go_ret2
        refine ⟨HB2.trans (hbr.mono HB2.size), _, L, ?_, hL.base HB2.size, ?_⟩
        · rw [HPE.out]; rfl
        · rw [hLm, HRS.out, HNT.out, List.take_length]
end Go.Proofs.YtnkgbocdpngldaaGreatDoor

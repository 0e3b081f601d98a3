/-
  A range over the states that were reached; how many places there are among them.
  Count of package lock.
-/
import Derived.Test.YtnkgbocdpngldaaGreatDoorZSea1
import Derived.Maps.RangeWalk
import Derived.Test.YtnkgbocdpngldaaGreatDoorZSea2
set_option linter.unusedVariables false
set_option linter.unusedSimpArgs false
namespace Go.Proofs.YtnkgbocdpngldaaGreatDoor
open Go.RowKit Dc Dg

def pl (x : St) : Int × Int × Int := (x.a0, x.a1, x.a2)
def dedupP : List (Int × Int × Int) → List (Int × Int × Int)
  | [] => []
  | q :: l => if q ∈ dedupP l then dedupP l else q :: dedupP l
theorem mem_dedup {q : Int × Int × Int} : ∀ {l : List (Int × Int × Int)}, q ∈ dedupP l ↔ q ∈ l
  | [] => Iff.rfl
  | r :: l => by
    unfold dedupP
    split
    · rename_i h
      rw [mem_dedup, List.mem_cons]
      refine ⟨Or.inr, fun h2 => ?_⟩
      rcases h2 with rfl | h2
      · exact mem_dedup.1 h
      · exact h2
    · rw [List.mem_cons, List.mem_cons, mem_dedup]
theorem nodup_dedup : ∀ (l : List (Int × Int × Int)), (dedupP l).Nodup
  | [] => List.nodup_nil
  | q :: l => by
    unfold dedupP
    split
    · exact nodup_dedup l
    · exact List.nodup_cons.2 ⟨by assumption, nodup_dedup l⟩
/-- how many places there are among the states that were reached -/
def countS (R : List (St × Step)) : Nat := (dedupP ((keysS R).map pl)).length
theorem countS_is {R : List (St × Step)} {L : List (Int × Int × Int)} (hL : L.Nodup) (h1 : ∀ q ∈ L, ∃ x ∈ keysS R, pl x = q) (h2 : ∀ x ∈ keysS R, pl x ∈ L) : L.length = countS R := by
  unfold countS
  refine ((List.perm_ext_iff_of_nodup hL (nodup_dedup _)).2 (fun q => ?_)).length_eq
  rw [mem_dedup, List.mem_map]
  constructor
  · intro h; obtain ⟨x, hx, e⟩ := h1 q h; exact ⟨x, hx, e⟩
  · rintro ⟨x, hx, rfl⟩; exact h2 x hx

/-- a range over a table is under way: these states are still to come -/
def RgS (w : World) (mt it : Nat) (R : List (St × Step)) (todo : St → Prop) : Prop :=
  ∃ (N : Nat) (D : DataW Value) (left : Lit → Bool) (cnt : Nat), w.ranges Tryz.prog 87 anyElem mt it N D left cnt ∧ (∀ l, Go.Maps.has D l = true → ∃ x ∈ keysS R, keyOf Tryz.prog 87 x.val = some l) ∧
    (∀ x ∈ keysS R, ∃ l, keyOf Tryz.prog 87 x.val = some l ∧ (left l = true ↔ todo x))
theorem RgS.kept {w w' : World} {mt it : Nat} {R : List (St × Step)} {todo : St → Prop} {row : Option Nat} (h : RgS w mt it R todo) (hg : w.grownBy w' row) (hb : some mt ≠ row) (hr : some it ≠ row) : RgS w' mt it R todo := by
  obtain ⟨N, D, left, cnt, h1, h2⟩ := h
  exact ⟨N, D, left, cnt, h1.kept hg hb hr, h2⟩
theorem RgS.ne {w : World} {mt it : Nat} {R : List (St × Step)} {todo : St → Prop} (h : RgS w mt it R todo) : it ≠ mt := by
  obtain ⟨N, D, left, cnt, h1, h2⟩ := h
  exact h1.ne
theorem RgS.lt {w : World} {mt it : Nat} {R : List (St × Step)} {todo : St → Prop} (h : RgS w mt it R todo) : it < w.heap.size := by
  obtain ⟨N, D, left, cnt, h1, h2⟩ := h
  exact h1.lt
theorem RgS.map {w : World} {mt it : Nat} {R : List (St × Step)} {todo : St → Prop} (h : RgS w mt it R todo) : ∃ es clock, w.heap[mt]? = some (.map es clock) := by
  obtain ⟨N, D, left, cnt, ⟨es, clock, since, seen, c0, hb, _⟩, h2⟩ := h
  exact ⟨es, clock, hb⟩
theorem RgS.iter {w : World} {mt it : Nat} {R : List (St × Step)} {todo : St → Prop} (h : RgS w mt it R todo) : ∃ b since seen c, w.heap[it]? = some (.mapIter b since seen c) := by
  obtain ⟨N, D, left, cnt, ⟨es, clock, since, seen, c0, hb, _, _, _, hi, _⟩, h2⟩ := h
  exact ⟨_, _, _, _, hi⟩
theorem wpList_rangeS {w : World} {ops : Array Oper} {rest : List Oper} {o : Oper} {a : Act} {Q : Exit → Act → World → Prop} (hg : o.guard = none) (m : Operand) (hop : o.op = Op.range 81 m) (mt N s : Nat) (R : List (St × Step)) (hsm : ∀ x ∈ keysS R, x.Small)
    (hm : a.eval m = .map (some mt)) (hT : TabW w mt N s R)
    (hK : ∀ w', RgS w' mt w.heap.size R (fun _ => True) → w.grownBy w' none → w'.heap.size = w.heap.size + 1 → wpList Tryz.prog ops Q rest (a.put o.dst (.pointer (some ⟨w.heap.size, 0, none⟩))) w') :
    wpList Tryz.prog ops Q (o :: rest) a w := by
  obtain ⟨D, h1, h2, h3, h4, h5⟩ := hT
  refine wpList_range_own w hg m _ hop 87 142 lawS undTab anyElem mt N D hm h1 (fun w' hr hgr hsz => hK w' ⟨N, D, _, _, hr, fun l hl => ?_, fun x hx => ?_⟩ hgr hsz)
  · obtain ⟨x, hx, hk⟩ := h5 l hl
    refine ⟨x, ?_, hk⟩
    unfold tabF at hx
    cases hgt : Tab.get R x with
    | none => rw [hgt] at hx; cases hx
    | some st =>
      exact Classical.byContradiction (fun hn => by rw [get_none.2 hn] at hgt; cases hgt)
  · obtain ⟨l, hl⟩ := encS.key x (hsm x hx)
    refine ⟨l, hl, ⟨fun _ => trivial, fun _ => ?_⟩⟩
    rw [(h3 x l (hsm x hx) hl).2]
    unfold tabF
    cases hgt : Tab.get R x with
    | none => exact absurd hx (get_none.1 hgt)
    | some st => rfl
theorem wpList_nextS {w : World} {ops : Array Oper} {rest : List Oper} {o : Oper} {a : Act} {Q : Exit → Act → World → Prop} (hg : o.guard = none) (i : Operand) (hop : o.op = Op.next i false) (mt it : Nat) (R : List (St × Step)) (todo : St → Prop)
    (hi : a.eval i = .pointer (some ⟨it, 0, none⟩)) (h : RgS w mt it R todo)
    (hDone : (∀ x ∈ keysS R, ¬ todo x) → wpList Tryz.prog ops Q rest (a.put o.dst (.tuple #[.bool false])) w)
    (hMore : ∀ (x : St) (v : Value) (w' : World), x ∈ keysS R → RgS w' mt it R (fun y => todo y ∧ y ≠ x) → w'.rangeLeft mt it < w.rangeLeft mt it → w.grownBy w' (some it) → w'.heap.size = w.heap.size →
      (Instr.entry (.pointer (some ⟨it, 0, none⟩))).run Tryz.prog w' = .ok (.tuple #[.agg #[.int .i64 x.a0, .int .i64 x.a1, .int .i64 x.a2, .int .i64 x.f0, .int .i64 x.f1, .int .i64 x.f2], v]) w' →
      wpList Tryz.prog ops Q rest (a.put o.dst (.tuple #[.bool true, .agg #[.int .i64 x.a0, .int .i64 x.a1, .int .i64 x.a2, .int .i64 x.f0, .int .i64 x.f1, .int .i64 x.f2], v])) w') :
    wpList Tryz.prog ops Q (o :: rest) a w := by
  obtain ⟨N, D, left, cnt, h1, h2, h3⟩ := h
  refine wpList_next_ranges w hg i hop 87 lawS anyElem (fun x : Value => x) (fun v : Value => v) (fun key kl hk => ⟨key, rfl⟩) (fun v y hv => ⟨v, rfl⟩) mt it N D left cnt hi h1 (fun h0 hl => hDone (fun x hx ht => ?_)) (fun key v kl y w' cnt' hkey hlk hv hat hrg hlt hgr hsz hen => ?_)
  · obtain ⟨l, hl1, hl2⟩ := h3 x hx
    rw [hl l] at hl2
    exact absurd (hl2.2 ht) (by decide)
  · obtain ⟨x, hx, hxk⟩ := h2 kl (Go.Maps.has_true_of_atKey hat)
    obtain rfl : key = x.val := lawS.inj hkey hxk
    refine hMore x v w' hx ⟨N, D, _, cnt', hrg, h2, fun z hz => ?_⟩ (by rw [hrg.left_eq, h1.left_eq]; exact hlt) hgr hsz hen
    obtain ⟨l, hl1, hl2⟩ := h3 z hz
    refine ⟨l, hl1, ?_⟩
    simp only [Bool.and_eq_true, hl2]
    refine and_congr_right (fun _ => ?_)
    by_cases hzx : l = kl
    · subst hzx
      have e1 : z.val = x.val := lawS.inj hl1 hxk
      have e2 : z = x := by
        unfold St.val at e1
        simp only [Value.agg.injEq, Array.mk.injEq, List.cons.injEq, Value.int.injEq, true_and, and_true] at e1
        cases z; cases x
        simp only [St.mk.injEq] at e1 ⊢
        exact e1
      subst e2
      simp [WideAt.sameKey_self (lawS.key hxk)]
    · rw [Go.Maps.sameKey_ne hzx]
      simp only [Bool.not_false, true_iff]
      rintro rfl
      rw [hl1] at hxk
      exact hzx (Option.some.inj hxk)

/-- a map has no more entries than it says -/
theorem MapW.tight {κ : Type} {P : Program} {K : TypeId} {enc : κ → Value} {ok : κ → Prop} {w : World} {b n s : Nat} {f : κ → Option Value} (h : MapW P K enc ok w b n s f) : MapW P K enc ok w b s s f := by
  obtain ⟨D, ⟨es, clock, hb, F, hs, hD⟩, h2, h3⟩ := h
  refine ⟨D, ⟨es, clock, hb, F, ?_, hD⟩, h2, h3⟩
  rw [← h2, hD]
  show es.size ≤ (List.foldr DataW.insert [] _).length
  have hp := (WideShapes.sorted_perm (es.toList.map (WideElems.rg P K anyElem))).length_eq
  rw [List.length_map, Array.length_toList] at hp
  exact Nat.le_of_eq hp.symm
theorem nodup_sub {α : Type} [DecidableEq α] : ∀ (L K : List α), L.Nodup → (∀ x ∈ L, x ∈ K) → L.length ≤ K.length
  | [], _, _, _ => Nat.zero_le _
  | x :: L, K, hd, h => by
    have hx := h x (List.mem_cons_self ..)
    have h1 := nodup_sub L (K.erase x) (List.nodup_cons.1 hd).2 (fun y hy => by
      refine (List.mem_erase_of_ne (fun e => ?_)).2 (h y (List.mem_cons_of_mem _ hy))
      subst e
      exact (List.nodup_cons.1 hd).1 hy)
    rw [List.length_erase, if_pos (by simpa using hx)] at h1
    have : 0 < K.length := List.length_pos_of_mem hx
    simp only [List.length_cons]
    omega
/-- the places that were met -/
def plF (L : List (Int × Int × Int)) (q : Int × Int × Int) : Option Value := if q ∈ L then some (.bool true) else none
def PlW (w : World) (mb : Nat) (L : List (Int × Int × Int)) : Prop := MapW Tryz.prog 85 encLi okLi w mb L.length L.length (plF L)
theorem undPl : Tryz.prog.underlying 91 = some (.map 85 4) := by kernel_rfl
theorem plF_put {L : List (Int × Int × Int)} {q : Int × Int × Int} : putW (plF L) q (.bool true) = plF (if q ∈ L then L else L ++ [q]) := by
  funext z
  unfold putW plF
  by_cases hz : z = q
  · subst hz
    rw [if_pos rfl]
    by_cases hL : z ∈ L
    · rw [if_pos hL, if_pos hL]
    · rw [if_neg hL, if_pos (by simp)]
  · rw [if_neg hz]
    by_cases hL : q ∈ L
    · rw [if_pos hL]
    · rw [if_neg hL]
      simp [hz]
/-- between two places -/
structure CntR (w wr : World) (mt it pb : Nat) (R : List (St × Step)) (todo : St → Prop) (L : List (Int × Int × Int)) : Prop where
  rg : RgS wr mt it R todo
  plw : PlW wr pb L
  nd : L.Nodup
  from_ : ∀ q ∈ L, ∃ x ∈ keysS R, pl x = q
  to_ : ∀ x ∈ keysS R, todo x ∨ pl x ∈ L
  below : Below w.heap.size w wr
  pb0 : w.heap.size ≤ pb
  it0 : w.heap.size ≤ it
  ne : mt ≠ pb
theorem PlW.ne {w : World} {mb : Nat} {L : List (Int × Int × Int)} (h : PlW w mb L) {k : Nat} {o : Obj} (hk : w.heap[k]? = some o) (ho : ∀ es c, o ≠ .map es c) : k ≠ mb := by
  obtain ⟨D, ⟨es, clock, hb, _⟩, _⟩ := h
  rintro rfl
  rw [hb] at hk
  cases hk
  exact ho _ _ rfl
theorem CntR.len {w wr : World} {mt it pb : Nat} {R : List (St × Step)} {todo : St → Prop} {L : List (Int × Int × Int)} (C : CntR w wr mt it pb R todo L) : L.length ≤ R.length := by
  have := nodup_sub L ((keysS R).map pl) C.nd (fun q hq => by obtain ⟨x, hx, e⟩ := C.from_ q hq; exact List.mem_map.2 ⟨x, hx, e⟩)
  simpa [keysS] using this
/-- the table of places, when the range has gone on -/
theorem CntR.next {w wr w7 : World} {mt it pb : Nat} {R : List (St × Step)} {todo : St → Prop} {L : List (Int × Int × Int)} (C : CntR w wr mt it pb R todo L) (hg7 : wr.grownBy w7 (some it)) (o : Obj) : PlW (w7.alloc o) pb L := by
  obtain ⟨_, _, _, _, hi⟩ := C.rg.iter
  have h7 : PlW w7 pb L := MapW.kept C.plw hg7 (fun e => C.plw.ne hi (by intro es c e; cases e) (Option.some.inj e).symm)
  exact MapW.kept h7 (World.grownBy_alloc w7 o none) (by simp)
theorem CntR.step {w wr w7 w9 : World} {mt it pb : Nat} {R : List (St × Step)} {todo : St → Prop} {L : List (Int × Int × Int)} (C : CntR w wr mt it pb R todo L) {x : St} (hx : x ∈ keysS R) (hR7 : RgS w7 mt it R (fun y => todo y ∧ y ≠ x)) (hg7 : wr.grownBy w7 (some it)) {o : Obj}
    (hM9 : MapW Tryz.prog 85 encLi okLi w9 pb (L.length + 1) (if (plF L (pl x)).isSome then L.length else L.length + 1) (putW (plF L) (pl x) (.bool true))) (hg9 : (w7.alloc o).grownBy w9 (some pb)) :
    CntR w w9 mt it pb R (fun y => todo y ∧ y ≠ x) (if pl x ∈ L then L else L ++ [pl x]) ∧ w9.rangeLeft mt it = w7.rangeLeft mt it := by
  obtain ⟨_, _, _, _, hi⟩ := C.rg.iter
  have hit : it ≠ pb := C.plw.ne hi (by intro es c e; cases e)
  have hRA : RgS (w7.alloc o) mt it R (fun y => todo y ∧ y ≠ x) := hR7.kept (World.grownBy_alloc w7 o none) (by simp) (by simp)
  have hR9 := hRA.kept hg9 (fun e => C.ne (Option.some.inj e)) (fun e => hit (Option.some.inj e))
  rw [plF_put] at hM9
  have hb7 : Below w.heap.size w w7 := C.below.grown hg7 C.below.size (fun k e => by cases e; exact C.it0)
  have hbA : Below w.heap.size w (w7.alloc o) := hb7.alloc hb7.size o
  refine ⟨⟨hR9, ?_, ?_, ?_, ?_, hbA.grown hg9 hbA.size (fun k e => by cases e; exact C.pb0), C.pb0, C.it0, C.ne⟩, ?_⟩
  · by_cases hL : pl x ∈ L
    · rw [if_pos hL] at hM9 ⊢
      have : (plF L (pl x)).isSome = true := by unfold plF; rw [if_pos hL]; rfl
      rw [this, if_pos rfl] at hM9
      exact hM9.tight
    · rw [if_neg hL] at hM9 ⊢
      have : (plF L (pl x)).isSome = false := by unfold plF; rw [if_neg hL]; rfl
      rw [this, if_neg (by simp)] at hM9
      have h := hM9.tight
      unfold PlW
      rw [List.length_append]
      exact h
  · by_cases hL : pl x ∈ L
    · rw [if_pos hL]; exact C.nd
    · rw [if_neg hL]
      exact List.nodup_append.2 ⟨C.nd, by simp, fun a ha b hb e => by simp at hb; subst hb; subst e; exact hL ha⟩
  · intro q hq
    by_cases hL : pl x ∈ L
    · rw [if_pos hL] at hq; exact C.from_ q hq
    · rw [if_neg hL] at hq
      rcases List.mem_append.1 hq with h | h
      · exact C.from_ q h
      · simp at h; exact ⟨x, hx, h.symm⟩
  · intro y hy
    by_cases hyx : y = x
    · subst hyx
      right
      by_cases hL : pl y ∈ L
      · rw [if_pos hL]; exact hL
      · rw [if_neg hL]; simp
    · rcases C.to_ y hy with h | h
      · exact Or.inl ⟨h, hyx⟩
      · right
        by_cases hL : pl x ∈ L
        · rw [if_pos hL]; exact h
        · rw [if_neg hL]; exact List.mem_append_left _ h
  · obtain ⟨_, _, hm⟩ := hR7.map
    have l1 : mt < w7.heap.size := (Array.getElem?_eq_some_iff.1 hm).1
    have l2 := hR7.lt
    unfold World.rangeLeft
    rw [hg9.block mt (by simp; omega) (fun e => C.ne (Option.some.inj e)), hg9.block it (by simp; omega) (fun e => hit (Option.some.inj e)), heap_alloc_old _ _ l1, heap_alloc_old _ _ l2]
end Go.Proofs.YtnkgbocdpngldaaGreatDoor

namespace Go.Proofs.YtnkgbocdpngldaaGreatDoor
open Go.RowKit Dc Dg

/-- a system in memory, as it comes to a call -/
structure SysP (w : World) (p : Option Addr) (c : Nat) (gs : List Gd) : Prop where
  G : GuardsP w p gs
  X : Gx w
  F : FitG gs
  c1 : gs.length ≤ c
  c2 : (c : Int) ≤ 9223372036854775807
theorem SysP.below {w w' : World} {p : Option Addr} {c : Nat} {gs : List Gd} (h : SysP w p c gs) (hb : Below w.heap.size w w') : SysP w' p c gs := ⟨h.G.below hb, h.X.below hb, h.F, h.c1, h.c2⟩
theorem SysP.check {w : World} {p : Option Addr} {c : Nat} {gs : List Gd} (h : SysP w p c gs) : Calls Tryz.prog 31 #[.agg #[.slice p gs.length c]] w (ErrnoPost (sysS gs) 40 w) := checkSysN gs p c w h.G h.X h.F h.c1 h.c2

theorem small_pl {x : St} (h : x.Small) : okLi (pl x) := ⟨h.a0, h.a1, h.a2⟩
/-- what Count hands back -/
def countG (gs : List Gd) : Int := if sysS gs then (countS (searchS (machOf gs) St.zero (fun _ => true) (fun _ => false)).2 : Int) else 0
set_option maxRecDepth 100000 in
set_option maxHeartbeats 4000000 in
theorem countN (gs : List Gd) (p : Option Addr) (c : Nat) (w : World) (hP : SysP w p c gs) :
    Calls Tryz.prog 11 #[.agg #[.slice p gs.length c]] w (fun e w' => e = .returned (.tuple #[.int .i64 (countG gs), .int .i64 (if sysS gs then 0 else 40)]) ∧ Below w.heap.size w w') := by
  have hb1 : Below w.heap.size w (w.alloc (.cells #[.slice p gs.length c] 24)) := (Below.refl _ _).alloc (Nat.le_refl _) _
  have s0 := alloc_cell w #[.slice p gs.length c] 24 0 _ rfl
  have hlt : w.heap.size < (w.alloc (.cells #[.slice p gs.length c] 24)).heap.size := by simp
  have P1 := hP.below hb1
  have hmm := @run_makeMap Tryz.prog
  go_enter Tryz.func11, Tryz.ntmps11
  go_wp2_with fail
  generalize w.alloc (.cells #[.slice p gs.length c] 24) = w1 at *
  refine P1.check.mono ?_
  rintro e w2 ⟨rfl, hb2⟩
  cases hS : sysS gs
  · simp only [Bool.false_eq_true, if_false]
    go_wp2_with fail
    all_goals go_ret2
    all_goals exact ⟨by simp [countG, hS], hb1.trans (hb2.mono hb1.size)⟩
  · simp only [if_true]
    have P2 := P1.below hb2
    have s2 := (hb2.cell (p := ⟨w.heap.size, 0, none⟩) hlt).trans s0
    go_wp2_with fail
    refine (madeN gs p c w2 P2.G hS).mono ?_
    rintro e w3 ⟨mB, vn, vb, mb, Nm, sm, f, rfl, hM, hb3⟩
    go_wp2_with fail
    refine (searchN gs p c vn vb mb Nm sm f w3 mB St.zero hM (fitM_of hS) hS (Mach.At.zero (sys_good hS)) 45 46 #[] #[] (fun _ => true) (fun _ => false) (run_enter Tryz.func45 (by kernel_rfl) (by decide)) (run_enter Tryz.func46 (by kernel_rfl) (by decide))
      (fun w' _ v _ => anyEventN v w') (fun w' _ y _ => noStateN y w')).mono ?_
    rintro e w4 ⟨hb4, v4, mt, N, s, rfl, hT, hE, hmt⟩
    have hI : Inv (machOf gs) (fun _ => true) (fun _ => false) St.zero (searchS (machOf gs) St.zero (fun _ => true) (fun _ => false)).2 ((searchS (machOf gs) St.zero (fun _ => true) (fun _ => false)).2.length) := by
      have := search_spec (sys_good hS) (al := fun _ => true) (fd := fun _ => false) (Mach.At.zero (sys_good hS))
      revert this
      generalize searchS (machOf gs) St.zero (fun _ => true) (fun _ => false) = res
      intro this
      match res, this with
      | (some y, R'), h => exact absurd h.fd (by decide)
      | (none, R'), h => exact h.inv
    have hsm : ∀ x ∈ keysS (searchS (machOf gs) St.zero (fun _ => true) (fun _ => false)).2, x.Small := fun x hx => (hI.at_ x hx).small (sys_good hS)
    have hRl := inv_bound (sys_good hS) hI
    have hcg : countG gs = (countS (searchS (machOf gs) St.zero (fun _ => true) (fun _ => false)).2 : Int) := by simp [countG, hS]
    generalize (searchS (machOf gs) St.zero (fun _ => true) (fun _ => false)).1.isSome = bz at *
    generalize (searchS (machOf gs) St.zero (fun _ => true) (fun _ => false)).2 = R at *
    have hbA : Below w4.heap.size w4 (w4.alloc (.map #[] 0)) := (Below.refl _ _).alloc (Nat.le_refl _) _
    have hT5 : TabW (w4.alloc (.map #[] 0)) mt N s R := hT.same (hbA.block _ hT.lt)
    have hP5 : PlW (w4.alloc (.map #[] 0)) w4.heap.size [] := MapW.made w4 _ _ _ _
    have hb5 : Below w.heap.size w (w4.alloc (.map #[] 0)) := ((hb1.trans (hb2.mono hb1.size)).trans (hb3.mono (Nat.le_trans hb1.size hb2.size))).trans ((hb4.mono (Nat.le_trans hb1.size (Nat.le_trans hb2.size hb3.size))).trans (hbA.mono (Nat.le_trans hb1.size (Nat.le_trans hb2.size (Nat.le_trans hb3.size hb4.size)))))
    have hz4 : w.heap.size ≤ w4.heap.size := Nat.le_trans hb1.size (Nat.le_trans hb2.size (Nat.le_trans hb3.size hb4.size))
    have hz5 : (w4.alloc (.map #[] 0)).heap.size = w4.heap.size + 1 := by simp
    go_wp2_with (at_range; refine wpList_rangeS rfl _ rfl mt N s R hsm rfl hT5 ?_; intro w6 hR6 hg6 hz6)
    go_frame
    obtain ⟨it, hit⟩ : ∃ it, it = (w4.alloc (.map #[] 0)).heap.size := ⟨_, rfl⟩
    rw [← hit] at hR6 ⊢
    have C0 : CntR w w6 mt it w4.heap.size R (fun _ => True) [] := ⟨hR6, MapW.kept hP5 hg6 (by simp), List.nodup_nil, fun q hq => (by cases hq), fun x _ => Or.inl trivial, hb5.grown hg6 hb5.size (fun k e => by cases e), hz4, by omega, by have := hT.lt; omega⟩
    clear hR6 hP5 hg6 hz6 hT5 hT hit hz5 hbA hb4 hb3 hb2 hb1 s0 hlt P1 P2 s2 hM hE hmt hI hmm hb5
    have HSM := Lib.hid hsm
    clear hsm
    have hz4' := Lib.hid hz4
    clear hz4
    generalize w4.heap.size = pb at C0 ⊢
    go_loopw [28] (fun _ wr => ∃ (todo : St → Prop) (L : List (Int × Int × Int)), CntR w wr mt it pb R todo L) (fun _ wr => wr.rangeLeft mt it)
    case atStart => exact ⟨_, _, C0⟩
    case round =>
      clear C0
      obtain ⟨todo, L, C⟩ := hrel
      go_wp2_with (at_next; refine wpList_nextS rfl _ rfl mt it R todo rfl C.rg ?_ ?_)
      · intro hd
        have hlen := fun ty => MapW.len C.plw undPl ty
        have hcs := countS_is C.nd C.from_ (fun x hx => (C.to_ x hx).resolve_left (hd x hx))
        go_wp2_with fail
        go_ret2
        exact ⟨by rfl, C.below⟩
      · intro x v w7 hx hR7 hlt7 hg7 hz7 hen
        have hxs := HSM.out x hx
        have hLl := C.len
        obtain ⟨w9, hrun, hM9, hg9⟩ := (C.next hg7 (.cells #[.int .i64 x.a0, .int .i64 x.a1, .int .i64 x.a2, .int .i64 x.f0, .int .i64 x.f1, .int .i64 x.f2] 87)).store encL undPl (by unfold maxLen; omega) (k := pl x) (small_pl hxs) (.bool true)
        obtain ⟨C9, hm9⟩ := C.step hx hR7 hg7 hM9 hg9
        simp only [encLi, pl] at hrun
        go_wp2_with fail
        go_roundw
        case rel => exact ⟨_, _, C9⟩
        case measure => rw [hm9]; exact hlt7
end Go.Proofs.YtnkgbocdpngldaaGreatDoor

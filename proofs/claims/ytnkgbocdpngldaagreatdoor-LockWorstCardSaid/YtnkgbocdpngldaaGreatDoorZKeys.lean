/-
  Maps in memory as functions from keys to values.
  The keys of the tables of package lock.
-/
import Derived.Test.YtnkgbocdpngldaaGreatDoorZMach
import Derived.Maps.OwnSet
import Derived.DeepKeys4
set_option linter.unusedVariables false
set_option linter.unusedSimpArgs false
namespace Go.Proofs.YtnkgbocdpngldaaGreatDoor
open Go.Maps (Keyed)

/-- an element as it is -/
def anyElem (v : Value) : Option (DataW Value × List MemPlace) := some (.held v, [])

/-- the keys of a map: how they lie in memory -/
structure KeyEnc (P : Program) (K : TypeId) {κ : Type} (enc : κ → Value) (ok : κ → Prop) : Prop where
  law : Keyed P K
  key : ∀ k, ok k → ∃ l, keyOf P K (enc k) = some l
  inj : ∀ a b, ok a → ok b → enc a = enc b → a = b

/-- block b of w is a map with at most n entries, s of them, that gives f -/
def MapW {κ : Type} (P : Program) (K : TypeId) (enc : κ → Value) (ok : κ → Prop) (w : World) (b n s : Nat) (f : κ → Option Value) : Prop :=
  ∃ D : DataW Value, w.ownsMap P K anyElem b n D ∧ Go.Maps.size D = s ∧
    (∀ k l, ok k → keyOf P K (enc k) = some l → (∀ z, D.atKey l (.held z) = .held ((f k).getD z)) ∧ Go.Maps.has D l = (f k).isSome) ∧
    (∀ k, (f k).isSome = true → ok k) ∧ (∀ l, Go.Maps.has D l = true → ∃ k, (f k).isSome = true ∧ keyOf P K (enc k) = some l)

section
variable {κ : Type} {P : Program} {K : TypeId} {enc : κ → Value} {ok : κ → Prop} {w : World} {b n s : Nat} {f : κ → Option Value}

theorem MapW.made (w : World) (P : Program) (K : TypeId) (enc : κ → Value) (ok : κ → Prop) : MapW P K enc ok (w.alloc (.map #[] 0)) w.heap.size 0 0 (fun _ => none) := by
  refine ⟨.map [], World.ownsMap_made _ _ _ _, rfl, fun k l _ _ => ⟨fun z => Go.Maps.atKey_of_not_has rfl _, rfl⟩, ?_, ?_⟩
  · intro k h; cases h
  · intro l h; cases h
theorem MapW.lt (h : MapW P K enc ok w b n s f) : b < w.heap.size := by
  obtain ⟨D, h1, _⟩ := h
  exact h1.lt
theorem MapW.kept {w' : World} {row : Option Nat} (h : MapW P K enc ok w b n s f) (hg : w.grownBy w' row) (hne : some b ≠ row) : MapW P K enc ok w' b n s f := by
  obtain ⟨D, h1, h2⟩ := h
  exact ⟨D, h1.kept hg hne, h2⟩
/-- the block lies as it lay -/
theorem MapW.same {w' : World} (h : MapW P K enc ok w b n s f) (hg : w'.heap[b]? = w.heap[b]?) : MapW P K enc ok w' b n s f := by
  obtain ⟨D, ⟨es, clock, hb, r⟩, h2⟩ := h
  exact ⟨D, ⟨es, clock, hg.trans hb, r⟩, h2⟩
theorem MapW.mono (h : MapW P K enc ok w b n s f) {n' : Nat} (hn : n ≤ n') : MapW P K enc ok w b n' s f := by
  obtain ⟨D, h1, h2⟩ := h
  exact ⟨D, h1.mono hn, h2⟩
theorem MapW.size_le (h : MapW P K enc ok w b n s f) : s ≤ n := by
  obtain ⟨D, h1, h2, _⟩ := h
  rw [← h2]; exact h1.size_le

theorem MapW.look {t e : TypeId} (h : MapW P K enc ok w b n s f) (E : KeyEnc P K enc ok) (ht : P.underlying t = some (.map K e)) {z : Value} (hz : (zeroValue e).run P w = .ok z w) {k : κ} (hk : ok k) :
    (Instr.lookup t (.map (some b)) (enc k) false).run P w = .ok ((f k).getD z) w := by
  obtain ⟨D, h1, _, h2, _⟩ := h
  obtain ⟨l, hl⟩ := E.key k hk
  obtain ⟨v, ps, hr, hv⟩ := h1.lookup E.law ht hz (zd := .held z) (zp := []) rfl hl
  rw [(h2 k l hk hl).1 z] at hv
  unfold anyElem at hv
  simp only [Option.some.injEq, Prod.mk.injEq, DataW.held.injEq] at hv
  rw [hr, hv.1]
theorem MapW.look_ok {t e : TypeId} (h : MapW P K enc ok w b n s f) (E : KeyEnc P K enc ok) (ht : P.underlying t = some (.map K e)) {z : Value} (hz : (zeroValue e).run P w = .ok z w) {k : κ} (hk : ok k) :
    (Instr.lookup t (.map (some b)) (enc k) true).run P w = .ok (.tuple #[(f k).getD z, .bool (f k).isSome]) w := by
  obtain ⟨D, h1, _, h2, _⟩ := h
  obtain ⟨l, hl⟩ := E.key k hk
  obtain ⟨v, ps, hr, hv⟩ := h1.look_ok E.law ht hz (zd := .held z) (zp := []) rfl hl
  rw [(h2 k l hk hl).1 z] at hv
  unfold anyElem at hv
  simp only [Option.some.injEq, Prod.mk.injEq, DataW.held.injEq] at hv
  rw [hr, hv.1, (h2 k l hk hl).2]
theorem MapW.len {t e : TypeId} (h : MapW P K enc ok w b n s f) (ht : P.underlying t = some (.map K e)) (ty : TypeId) : (Builtin.len_ #[t] ty #[.map (some b)]).run P w = .ok (.int .i64 s) w := by
  obtain ⟨D, h1, h2, _⟩ := h
  rw [← h2]
  exact h1.len ht ty

/-- a map with one more entry, or another one at a key -/
def putW {κ : Type} [DecidableEq κ] (f : κ → Option Value) (k : κ) (v : Value) : κ → Option Value := fun x => if x = k then some v else f x
theorem MapW.store [DecidableEq κ] {t e : TypeId} (h : MapW P K enc ok w b n s f) (E : KeyEnc P K enc ok) (ht : P.underlying t = some (.map K e)) (hn : n < maxLen) {k : κ} (hk : ok k) (v : Value) :
    ∃ w', (Instr.mapUpdate t (.map (some b)) (enc k) v).run P w = .ok () w' ∧ MapW P K enc ok w' b (n + 1) (if (f k).isSome then s else s + 1) (putW f k v) ∧ w.grownBy w' (some b) := by
  obtain ⟨D, h1, h2, h3, h4, h5⟩ := h
  obtain ⟨l, hl⟩ := E.key k hk
  obtain ⟨w', hr, h6, hg⟩ := h1.update E.law ht hn (val := v) (d := .held v) (ps := []) hl rfl
  refine ⟨w', hr, ⟨D.put l (.held v), h6, ?_, ?_, ?_, ?_⟩, hg⟩
  · rw [Go.Maps.size_put (h1.tidy E.law), (h3 k l hk hl).2, h2]
  · intro x lx hx hlx
    unfold putW
    by_cases e : x = k
    · subst e
      rw [hl] at hlx
      cases hlx
      rw [if_pos rfl]
      exact ⟨fun z => Go.Maps.atKey_put_same h1.isMap (E.law.key hl) _ _, Go.Maps.has_put_same h1.isMap (E.law.key hl) _⟩
    · rw [if_neg e]
      have hne : lx ≠ l := fun e2 => e (E.inj _ _ hx hk (E.law.inj hlx (e2 ▸ hl)))
      obtain ⟨a1, a2⟩ := h3 x lx hx hlx
      exact ⟨fun z => by rw [Go.Maps.atKey_put_other hne]; exact a1 z, by rw [Go.Maps.has_put_other hne]; exact a2⟩
  · intro x hx
    unfold putW at hx
    by_cases e : x = k
    · rw [e]; exact hk
    · rw [if_neg e] at hx; exact h4 x hx
  · intro lx hlx
    by_cases e : lx = l
    · subst e; exact ⟨k, by unfold putW; rw [if_pos rfl]; rfl, hl⟩
    · rw [Go.Maps.has_put_other e] at hlx
      obtain ⟨x, hx, hk2⟩ := h5 lx hlx
      refine ⟨x, ?_, hk2⟩
      unfold putW
      split
      · rfl
      · exact hx
end

/-! ### at the operation -/
section
variable {κ : Type} {P : Program} (w : World) {ops : Array Oper} {rest : List Oper} {o : Oper} {a : Act} {Q : Exit → Act → World → Prop} {enc : κ → Value} {ok : κ → Prop}
theorem wpList_look (hg : o.guard = none) (m x : Operand) (t : TypeId) (hop : o.op = Op.lookup t m x false) (K e : TypeId) (b n s : Nat) (f : κ → Option Value) (E : KeyEnc P K enc ok) (ht : P.underlying t = some (.map K e))
    (z : Value) (hz : (zeroValue e).run P w = .ok z w) (hm : a.eval m = .map (some b)) (hown : MapW P K enc ok w b n s f) (k : κ) (hk : ok k) (hx : a.eval x = enc k)
    (hK : wpList P ops Q rest (a.put o.dst ((f k).getD z)) w) : wpList P ops Q (o :: rest) a w := by
  refine wpList_plain hg fun K' hK' => ?_
  unfold Oper.wp
  simp [execOp, hop, hm, hx, hown.look E ht hz hk, Result.andThen]
  exact hK' _ _ hK
theorem wpList_look_ok (hg : o.guard = none) (m x : Operand) (t : TypeId) (hop : o.op = Op.lookup t m x true) (K e : TypeId) (b n s : Nat) (f : κ → Option Value) (E : KeyEnc P K enc ok) (ht : P.underlying t = some (.map K e))
    (z : Value) (hz : (zeroValue e).run P w = .ok z w) (hm : a.eval m = .map (some b)) (hown : MapW P K enc ok w b n s f) (k : κ) (hk : ok k) (hx : a.eval x = enc k)
    (hK : wpList P ops Q rest (a.put o.dst (.tuple #[(f k).getD z, .bool (f k).isSome])) w) : wpList P ops Q (o :: rest) a w := by
  refine wpList_plain hg fun K' hK' => ?_
  unfold Oper.wp
  simp [execOp, hop, hm, hx, hown.look_ok E ht hz hk, Result.andThen]
  exact hK' _ _ hK
theorem wpList_store [DecidableEq κ] (hg : o.guard = none) (m x y : Operand) (t : TypeId) (hop : o.op = Op.mapUpdate t m x y) (K e : TypeId) (b n s : Nat) (f : κ → Option Value) (E : KeyEnc P K enc ok) (ht : P.underlying t = some (.map K e))
    (hm : a.eval m = .map (some b)) (hown : MapW P K enc ok w b n s f) (hn : n < maxLen) (k : κ) (hk : ok k) (v : Value) (hx : a.eval x = enc k) (hy : a.eval y = v)
    (hK : ∀ w', MapW P K enc ok w' b (n + 1) (if (f k).isSome then s else s + 1) (putW f k v) → w.grownBy w' (some b) → wpList P ops Q rest (a.put o.dst undef) w') : wpList P ops Q (o :: rest) a w := by
  refine wpList_plain hg fun K' hK' => ?_
  obtain ⟨w', hrun, r1, r2⟩ := hown.store E ht hn hk v
  unfold Oper.wp
  simp [execOp, hop, hm, hx, hy, hrun, Result.andThen]
  exact hK' _ _ (hK w' r1 r2)
theorem wpList_len (hg : o.guard = none) (m : Operand) (t : TypeId) (hop : o.op = Op.call { callee := Callee.builtin Builtin.len, args := #[m], argTypes := #[t] }) (K e : TypeId) (b n s : Nat) (f : κ → Option Value) (ht : P.underlying t = some (.map K e))
    (hm : a.eval m = .map (some b)) (hown : MapW P K enc ok w b n s f) (hK : wpList P ops Q rest (a.put o.dst (.int .i64 s)) w) : wpList P ops Q (o :: rest) a w := by
  refine wpList_plain hg fun K' hK' => ?_
  unfold Oper.wp
  simp [execOp, hop, resolve, invoke, builtin, hm, hown.len ht o.type, Result.andThen]
  exact hK' _ _ hK
end
end Go.Proofs.YtnkgbocdpngldaaGreatDoor

namespace Go.Proofs.YtnkgbocdpngldaaGreatDoor

theorem laidAll : laidOutB Tryz.prog = true := by kernel_rfl
theorem typesSize : Tryz.prog.types.size = (Tryz.prog.types.size - 3) + 1 + 1 + 1 := by kernel_rfl
theorem und3 : Tryz.prog.underlying 3 = some (.int .i64) := by kernel_rfl
theorem undP : Tryz.prog.underlying 25 = some (.array 2 3) := by kernel_rfl
theorem undT : Tryz.prog.underlying 84 = some (.array 3 3) := by kernel_rfl
theorem undL : Tryz.prog.underlying 85 = some (.array 3 3) := by kernel_rfl
theorem cells3 : Tryz.prog.cellsOf 3 = 1 := by kernel_rfl
theorem cellsP : Tryz.prog.cellsOf 25 = 2 := by kernel_rfl
theorem cellsT : Tryz.prog.cellsOf 84 = 3 := by kernel_rfl
theorem cellsL : Tryz.prog.cellsOf 85 = 3 := by kernel_rfl
theorem cellsS : Tryz.prog.cellsOf 87 = 6 := by kernel_rfl
theorem ktP : Tryz.prog.keyType 25 = true := by kernel_rfl
theorem ktT : Tryz.prog.keyType 84 = true := by kernel_rfl
theorem ktL : Tryz.prog.keyType 85 = true := by kernel_rfl
theorem ktS : Tryz.prog.keyType 87 = true := by kernel_rfl
theorem wfI {a : Int} (h0 : 0 ≤ a) (h1 : a < 1000) : (Lit.int .i64 a).wf = true := WalkArith.wf_i64 (by omega)

theorem lawP : Go.Maps.Keyed Tryz.prog 25 := Go.Maps.Keyed.of_law (deep_law_laid laidAll (m := 2) (by omega) (of_decide_eq_true (by kernel_rfl)) (by kernel_rfl) (by rw [undP]))
theorem lawT : Go.Maps.Keyed Tryz.prog 84 := Go.Maps.Keyed.of_law (deep_law_laid laidAll (m := 2) (by omega) (of_decide_eq_true (by kernel_rfl)) (by kernel_rfl) (by rw [undT]))
theorem lawL : Go.Maps.Keyed Tryz.prog 85 := Go.Maps.Keyed.of_law (deep_law_laid laidAll (m := 2) (by omega) (of_decide_eq_true (by kernel_rfl)) (by kernel_rfl) (by rw [undL]))
theorem lawS : Go.Maps.Keyed Tryz.prog 87 := Go.Maps.Keyed.of_law (deep_law_laid laidAll (m := 3) (by omega) (of_decide_eq_true (by kernel_rfl)) (by kernel_rfl) (by rw [Tryz.underlying87]))

theorem litsP {a b : Int} (ha : (Lit.int .i64 a).wf = true) (hb : (Lit.int .i64 b).wf = true) (m : Nat) : Tryz.prog.keyLits (m + 1 + 1) 25 [.int .i64 a, .int .i64 b] = some [.int .i64 a, .int .i64 b] := by
  unfold Program.keyLits
  simp only [undP]
  rw [if_pos (by rw [cellsP]; rfl), show List.range 2 = [0, 1] from rfl, List.mapM_cons, List.mapM_cons, List.mapM_nil]
  simp [cells3, Program.keyLits, und3, ha, hb]
theorem litsT {a b c : Int} (ha : (Lit.int .i64 a).wf = true) (hb : (Lit.int .i64 b).wf = true) (hc : (Lit.int .i64 c).wf = true) (m : Nat) : Tryz.prog.keyLits (m + 1 + 1) 84 [.int .i64 a, .int .i64 b, .int .i64 c] = some [.int .i64 a, .int .i64 b, .int .i64 c] := by
  unfold Program.keyLits
  simp only [undT]
  rw [if_pos (by rw [cellsT]; rfl), show List.range 3 = [0, 1, 2] from rfl, List.mapM_cons, List.mapM_cons, List.mapM_cons, List.mapM_nil]
  simp [cells3, Program.keyLits, und3, ha, hb, hc]
theorem litsL {a b c : Int} (ha : (Lit.int .i64 a).wf = true) (hb : (Lit.int .i64 b).wf = true) (hc : (Lit.int .i64 c).wf = true) (m : Nat) : Tryz.prog.keyLits (m + 1 + 1) 85 [.int .i64 a, .int .i64 b, .int .i64 c] = some [.int .i64 a, .int .i64 b, .int .i64 c] := by
  unfold Program.keyLits
  simp only [undL]
  rw [if_pos (by rw [cellsL]; rfl), show List.range 3 = [0, 1, 2] from rfl, List.mapM_cons, List.mapM_cons, List.mapM_cons, List.mapM_nil]
  simp [cells3, Program.keyLits, und3, ha, hb, hc]
theorem litsS {a b c d e f : Int} (ha : (Lit.int .i64 a).wf = true) (hb : (Lit.int .i64 b).wf = true) (hc : (Lit.int .i64 c).wf = true) (hd : (Lit.int .i64 d).wf = true) (he : (Lit.int .i64 e).wf = true) (hf : (Lit.int .i64 f).wf = true) (m : Nat) :
    Tryz.prog.keyLits (m + 1 + 1 + 1) 87 [.int .i64 a, .int .i64 b, .int .i64 c, .int .i64 d, .int .i64 e, .int .i64 f] = some [.int .i64 a, .int .i64 b, .int .i64 c, .int .i64 d, .int .i64 e, .int .i64 f] := by
  unfold Program.keyLits
  simp only [Tryz.underlying87]
  rw [if_pos (by rw [cellsS]; exact ⟨rfl, by simp⟩)]
  simp [List.mapM_cons, cellsL, litsL ha hb hc, litsL hd he hf]

theorem keyP {a b : Int} (ha : (Lit.int .i64 a).wf = true) (hb : (Lit.int .i64 b).wf = true) : ∃ l, keyOf Tryz.prog 25 (.agg #[.int .i64 a, .int .i64 b]) = some l := by
  refine ⟨.string (keyBytes [.int .i64 a, .int .i64 b]), ?_⟩
  unfold keyOf
  simp only [undP]
  rw [if_pos (by rw [ktP]; simp [Value.formed, undP, cellsP]), typesSize]
  show ((Tryz.prog.keyLits _ _ [.int .i64 a, .int .i64 b]).map _) = _
  rw [litsP ha hb]; rfl
theorem keyT {a b c : Int} (ha : (Lit.int .i64 a).wf = true) (hb : (Lit.int .i64 b).wf = true) (hc : (Lit.int .i64 c).wf = true) : ∃ l, keyOf Tryz.prog 84 (.agg #[.int .i64 a, .int .i64 b, .int .i64 c]) = some l := by
  refine ⟨.string (keyBytes [.int .i64 a, .int .i64 b, .int .i64 c]), ?_⟩
  unfold keyOf
  simp only [undT]
  rw [if_pos (by rw [ktT]; simp [Value.formed, undT, cellsT]), typesSize]
  show ((Tryz.prog.keyLits _ _ [.int .i64 a, .int .i64 b, .int .i64 c]).map _) = _
  rw [litsT ha hb hc]; rfl
theorem keyL {a b c : Int} (ha : (Lit.int .i64 a).wf = true) (hb : (Lit.int .i64 b).wf = true) (hc : (Lit.int .i64 c).wf = true) : ∃ l, keyOf Tryz.prog 85 (.agg #[.int .i64 a, .int .i64 b, .int .i64 c]) = some l := by
  refine ⟨.string (keyBytes [.int .i64 a, .int .i64 b, .int .i64 c]), ?_⟩
  unfold keyOf
  simp only [undL]
  rw [if_pos (by rw [ktL]; simp [Value.formed, undL, cellsL]), typesSize]
  show ((Tryz.prog.keyLits _ _ [.int .i64 a, .int .i64 b, .int .i64 c]).map _) = _
  rw [litsL ha hb hc]; rfl
theorem keySt {a b c d e f : Int} (ha : (Lit.int .i64 a).wf = true) (hb : (Lit.int .i64 b).wf = true) (hc : (Lit.int .i64 c).wf = true) (hd : (Lit.int .i64 d).wf = true) (he : (Lit.int .i64 e).wf = true) (hf : (Lit.int .i64 f).wf = true) :
    ∃ l, keyOf Tryz.prog 87 (.agg #[.int .i64 a, .int .i64 b, .int .i64 c, .int .i64 d, .int .i64 e, .int .i64 f]) = some l := by
  refine ⟨.string (keyBytes [.int .i64 a, .int .i64 b, .int .i64 c, .int .i64 d, .int .i64 e, .int .i64 f]), ?_⟩
  unfold keyOf
  simp only [Tryz.underlying87]
  rw [if_pos (by rw [ktS]; simp [Value.formed, Tryz.underlying87, cellsS]), typesSize]
  show ((Tryz.prog.keyLits _ _ [.int .i64 a, .int .i64 b, .int .i64 c, .int .i64 d, .int .i64 e, .int .i64 f]).map _) = _
  rw [litsS ha hb hc hd he hf]; rfl

/-- a state as a value -/
def St.val (x : St) : Value := .agg #[.int .i64 x.a0, .int .i64 x.a1, .int .i64 x.a2, .int .i64 x.f0, .int .i64 x.f1, .int .i64 x.f2]
/-- small numbers -/
structure St.Small (x : St) : Prop where
  a0 : 0 ≤ x.a0 ∧ x.a0 < 1000
  a1 : 0 ≤ x.a1 ∧ x.a1 < 1000
  a2 : 0 ≤ x.a2 ∧ x.a2 < 1000
  f0 : 0 ≤ x.f0 ∧ x.f0 < 1000
  f1 : 0 ≤ x.f1 ∧ x.f1 < 1000
  f2 : 0 ≤ x.f2 ∧ x.f2 < 1000
theorem Mach.At.small {M : Mach} (G : M.Good) {x : St} (h : M.At x) : x.Small := by
  have h0 := at_small G h 0 (by omega)
  have h1 := at_small G h 1 (by omega)
  have h2 := at_small G h 2 (by omega)
  simp only [St.a, St.f] at h0 h1 h2
  exact ⟨by omega, by omega, by omega, by omega, by omega, by omega⟩
theorem encS : KeyEnc Tryz.prog 87 St.val St.Small where
  law := lawS
  key k h := keySt (wfI h.a0.1 h.a0.2) (wfI h.a1.1 h.a1.2) (wfI h.a2.1 h.a2.2) (wfI h.f0.1 h.f0.2) (wfI h.f1.1 h.f1.2) (wfI h.f2.1 h.f2.2)
  inj a b _ _ h := by
    unfold St.val at h
    cases a; cases b
    simp at h
    simp [h]
/-- a guard and a rung -/
def encPr (k : Nat × Nat) : Value := .agg #[.int .i64 k.1, .int .i64 k.2]
def okPr (k : Nat × Nat) : Prop := k.1 < 1000 ∧ k.2 < 1000
theorem encP : KeyEnc Tryz.prog 25 encPr okPr where
  law := lawP
  key k h := keyP (wfI (by omega) (by have := h.1; omega)) (wfI (by omega) (by have := h.2; omega))
  inj a b _ _ h := by
    unfold encPr at h
    simp at h
    exact Prod.ext (by omega) (by omega)
/-- three numbers -/
def encTr (k : Nat × Nat × Nat) : Value := .agg #[.int .i64 k.1, .int .i64 k.2.1, .int .i64 k.2.2]
def okTr (k : Nat × Nat × Nat) : Prop := k.1 < 1000 ∧ k.2.1 < 1000 ∧ k.2.2 < 1000
theorem encT : KeyEnc Tryz.prog 84 encTr okTr where
  law := lawT
  key k h := keyT (wfI (by omega) (by have := h.1; omega)) (wfI (by omega) (by have := h.2.1; omega)) (wfI (by omega) (by have := h.2.2; omega))
  inj a b _ _ h := by
    unfold encTr at h
    simp at h
    exact Prod.ext (by omega) (Prod.ext (by omega) (by omega))
/-- where all guards are -/
def encLi (k : Int × Int × Int) : Value := .agg #[.int .i64 k.1, .int .i64 k.2.1, .int .i64 k.2.2]
def okLi (k : Int × Int × Int) : Prop := (0 ≤ k.1 ∧ k.1 < 1000) ∧ (0 ≤ k.2.1 ∧ k.2.1 < 1000) ∧ (0 ≤ k.2.2 ∧ k.2.2 < 1000)
theorem encL : KeyEnc Tryz.prog 85 encLi okLi where
  law := lawL
  key k h := keyL (wfI h.1.1 h.1.2) (wfI h.2.1.1 h.2.1.2) (wfI h.2.2.1 h.2.2.2)
  inj a b _ _ h := by
    unfold encLi at h
    simp at h
    exact Prod.ext (by omega) (Prod.ext (by omega) (by omega))
end Go.Proofs.YtnkgbocdpngldaaGreatDoor

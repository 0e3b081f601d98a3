/-
  The walk of over (long division) of package num. Conditions: as the theorems say.
  Long division: what lies in memory, and the start of the loop.
-/
import Derived.Test.YtnkgbocdpngldaaGreatDoorZOver
import Derived.Deep.DeepCutAuto
import Derived.Deep.CutBlock
import Derived.Deep.CutRange
import Derived.StillTailTactics
import Derived.Deep.DeepFit
import Derived.Deep.RegionWith
import Derived.RegionTactic
set_option linter.unusedVariables false
set_option linter.unusedSimpArgs false
namespace Go.Proofs.YtnkgbocdpngldaaGreatDoor
open Go.RowKit Dg

theorem IsU.box (w : World) (z : Int) (d : Nat) (hz : z = d) : IsU (w.alloc (.cells #[.int .u64 z] 243)) (.slice (some ⟨w.heap.size, 0, none⟩) 1 1) [d] := by
  subst hz
  refine ⟨some ⟨w.heap.size, 0, none⟩, 1, rfl, by simp, by simp [maxLen], fun _ => ⟨w.heap.size, 0, rfl, by simp, fun j hj => ?_⟩⟩
  have : j = 0 := by simp at hj; exact hj
  subst this
  exact cell_one_new' w d 0 _ rfl

theorem IsU.drewN {w : World} {v : Value} {l : List Nat} (h : IsU w v l) (n : Nat) : IsU (w.drewN n) v l := h

theorem natural_z (z : Int) (n : Nat) (w : World) (hz : z = n) (hn : n < 18446744073709551616) :
    Calls Tryz.prog 193 #[.int .u64 z] w fun e w' => ∃ v, e = .returned v ∧ OwnU w' w.heap.size v (digs BB n) ∧ Below w.heap.size w w' := by
  subst hz; exact natural_any n w hn

theorem can_digs (n : Nat) : CB (digs BB n) := digs_can BB_two n

/-- the operands of a division by one digit -/
theorem one_digit {m : List Nat} (hm : CB m) (h1 : m.length = 1) : 0 < nth m 0 ∧ nth m 0 < 1000000000 ∧ val BB m = nth m 0 := by
  match m, h1 with
  | [d], _ =>
    have h2 := hm.2 (by simp)
    have h3 := hm.1 d (by simp)
    simp [nth] at *
    exact ⟨by omega, h3⟩

theorem can_length_le {l m : List Nat} (hl : CB l) (hm : CB m) (h : val BB m ≤ val BB l) : m.length ≤ l.length := by
  rcases Nat.lt_or_ge l.length m.length with hh | hh
  · have := val_lt_of_length BB_two hl hm hh; omega
  · exact hh

set_option maxRecDepth 100000 in
set_option maxHeartbeats 1000000 in
/-- a is less than b -/
theorem over_less (va vb : Value) (l m : List Nat) (w : World) (ha : IsU w va l) (hb : IsU w vb m) (hl : CB l) (hm : CB m) (hlt : val BB l < val BB m) :
    Calls Tryz.prog 178 #[va, vb] w fun e w' => ∃ vq vr, e = .returned (.tuple #[vq, vr]) ∧ IsU w' vq (digs BB (val BB l / val BB m)) ∧ IsU w' vr (digs BB (val BB l % val BB m)) ∧ Below w.heap.size w w' := by
  have hc : cmpI (val BB l) (val BB m) < 0 := by simp [cmpI, hlt]
  have H := Lib.hid hlt
  clear hlt
  go_enter Tryz.func178, Tryz.ntmps178
  go_wp2_with (go_at_call 191; refine (compare_any _ _ l m _ ha hb hl hm).mono ?_; rintro e w' ⟨rfl, n, rfl⟩)
  go_ret2
  refine ⟨_, _, rfl, ?_, ?_, below_drewN (Below.refl _ _) _⟩
  · rw [Nat.div_eq_of_lt H.out, digs_zero]; exact ⟨none, 0, rfl, by simp, by simp [maxLen], fun h => by simp at h⟩
  · rw [Nat.mod_eq_of_lt H.out, digs_val BB_two hl]; exact ha

set_option maxRecDepth 100000 in
set_option maxHeartbeats 1000000 in
/-- b has one digit -/
theorem over_one (va vb : Value) (l m : List Nat) (w : World) (ha : IsU w va l) (hb : IsU w vb m) (hl : CB l) (hm : CB m) (hll : l.length < 1000000) (h1 : m.length = 1) (hge : val BB m ≤ val BB l) :
    Calls Tryz.prog 178 #[va, vb] w fun e w' => ∃ vq vr, e = .returned (.tuple #[vq, vr]) ∧ IsU w' vq (digs BB (val BB l / val BB m)) ∧ IsU w' vr (digs BB (val BB l % val BB m)) ∧ Below w.heap.size w w' := by
  have hc : ¬ cmpI (val BB l) (val BB m) < 0 := by simp only [cmpI]; split <;> (try split) <;> omega
  have hb' := hb
  obtain ⟨p, cap, rfl, hlc, hcm, hcell⟩ := hb'
  obtain ⟨b, o, rfl, hbw, hcl⟩ := hcell (by omega)
  have hc0 : w.cell? ⟨b, o, none⟩ = some (.int .u64 (nth m 0)) := hcl 0 (by omega)
  have h1' : ((m.length : Int) == 1) = true := by simp [h1]
  have hd := one_digit hm h1
  have hd0 := hd.1
  have hd1 := hd.2.1
  have HD := Lib.hid hd.2.2
  clear hd hcl hcell hge
  have H1 := Lib.hid h1
  clear h1
  have hpos : (0 : Int) < m.length := by have := H1.out; omega
  have hmod := Nat.mod_lt (val BB l) hd0
  go_enter Tryz.func178, Tryz.ntmps178
  go_wp2_with (first | (go_at_call 191; refine (compare_any _ _ l m _ ha hb hl hm).mono ?_; rintro e w' ⟨rfl, n, rfl⟩) | (go_at_call 192; refine (short_any _ l (nth m 0) _ (IsU.drewN ha _) hl.1 hll hd0 (by omega)).mono ?_; rintro e w1 ⟨g, cap1, rfl, hg, hr, hb1⟩) | (go_at_call 193; refine (natural_z _ (val BB l % nth m 0) _ (by go_num) (by omega)).mono ?_; rintro e w2 ⟨v2, rfl, ho2, hb2⟩))
  go_ret2
  refine ⟨_, _, rfl, ?_, ?_, ?_⟩
  · rw [HD.out]; exact hr.isU.below hb2
  · rw [HD.out]; exact OwnU.isU ho2
  · exact (below_drewN (Below.refl _ _) _).trans (Below.trans hb1 (hb2.mono hb1.size))
end Go.Proofs.YtnkgbocdpngldaaGreatDoor

namespace Go.Proofs.YtnkgbocdpngldaaGreatDoor
open Go.RowKit Dg

theorem IsU.drew {w : World} {v : Value} {l : List Nat} (h : IsU w v l) : IsU w.drew v l := h

theorem RowU.other {w : World} {g cap : Nat} {l : List Nat} (h : RowU w g cap l) {a : Addr} (ha : g ≠ a.block) (u : Value) : RowU (w.setCell a u) g cap l :=
  ownsRow_setCell_other h (by simp [Value.ownBlock]; exact ha) u

theorem RowU.kept {w w' : World} {g cap : Nat} {l : List Nat} (h : RowU w g cap l) (hk : w'.heap[g]? = w.heap[g]?) : RowU w' g cap l := by
  obtain ⟨h1, h2⟩ := h
  refine ⟨h1, ?_⟩
  rcases h2 with h2 | ⟨g', cap', cur, e, hg, hh, r⟩
  · exact Or.inl h2
  · have : g' = g := by simp at e; exact e.1.symm
    subst this
    exact Or.inr ⟨g', cap', cur, e, hg, by rw [hk]; exact hh, r⟩

/-- what over keeps in memory: the scale, u, v, and the quotient's digits. -/
structure Mem (w0 wr : World) (gs gu gv go s cu cv co : Nat) (lu lv lo : List Nat) : Prop where
  o1 : w0.heap.size ≤ gs
  o2 : gs < gu
  o3 : gu < gv
  o4 : gv < go
  sc : wr.cell? ⟨gs, 0, none⟩ = some (.int .u64 s)
  ru : RowU wr gu cu lu
  rv : RowU wr gv cv lv
  ro : RowU wr go co lo
  bl : Below w0.heap.size w0 wr

theorem Mem.setU {w0 wr : World} {gs gu gv go s cu cv co : Nat} {lu lv lo : List Nat} (h : Mem w0 wr gs gu gv go s cu cv co lu lv lo) (j d : Nat) (z : Int) (hz : z = d) :
    Mem w0 (wr.setCell ⟨gu, j, none⟩ (.int .u64 z)) gs gu gv go s cu cv co (lu.set j d) lv lo := by
  have := h.o1; have := h.o2; have := h.o3; have := h.o4
  refine ⟨h.o1, h.o2, h.o3, h.o4, ?_, h.ru.set j d z hz, h.rv.other (by show gv ≠ gu; omega) _, h.ro.other (by show go ≠ gu; omega) _, h.bl.setCell (p := ⟨gu, j, none⟩) (by show w0.heap.size ≤ gu; omega) _⟩
  rw [World.cell?_setCell_other _ _ _ _ (by simp <;> omega)]; exact h.sc

theorem Mem.setO {w0 wr : World} {gs gu gv go s cu cv co : Nat} {lu lv lo : List Nat} (h : Mem w0 wr gs gu gv go s cu cv co lu lv lo) (j d : Nat) (z : Int) (hz : z = d) :
    Mem w0 (wr.setCell ⟨go, j, none⟩ (.int .u64 z)) gs gu gv go s cu cv co lu lv (lo.set j d) := by
  have := h.o1; have := h.o2; have := h.o3; have := h.o4
  refine ⟨h.o1, h.o2, h.o3, h.o4, ?_, h.ru.other (by show gu ≠ go; omega) _, h.rv.other (by show gv ≠ go; omega) _, h.ro.set j d z hz, h.bl.setCell (p := ⟨go, j, none⟩) (by show w0.heap.size ≤ go; omega) _⟩
  rw [World.cell?_setCell_other _ _ _ _ (by simp <;> omega)]; exact h.sc

theorem Mem.drewN {w0 wr : World} {gs gu gv go s cu cv co : Nat} {lu lv lo : List Nat} (h : Mem w0 wr gs gu gv go s cu cv co lu lv lo) (n : Nat) :
    Mem w0 (wr.drewN n) gs gu gv go s cu cv co lu lv lo := ⟨h.o1, h.o2, h.o3, h.o4, h.sc, h.ru, h.rv, h.ro, below_drewN h.bl n⟩

/-- 'append(u, 0)' where there is room -/
theorem wpList_append_room {w : World} {ops : Array Oper} {rest : List Oper} {o : Oper} {a : Act} {Q : Exit → Act → World → Prop} (T : TypeId)
    (hT : Tryz.prog.underlying T = some (.slice 243)) (hgd : o.guard = none) (s x : Operand)
    (ho : o.op = .call { callee := .builtin .append, args := #[s, x], argTypes := #[T, T] })
    (g N cap : Nat) (l : List Nat) (z : Int) (d : Nat) (hz : z = d) (hs : a.eval s = .slice (some ⟨g, 0, none⟩) N cap) (hN : N = l.length) (hown : RowU w g cap l)
    (hx : a.eval x = .slice (some ⟨w.heap.size, 0, none⟩) 1 1) (hlen : l.length < cap)
    (h : ∀ w', RowU w' g cap (l ++ [d]) → (∀ B w0, Below B w0 w → B ≤ g → Below B w0 w') → (∀ b o, b < w.heap.size → b ≠ g → w'.heap[b]? = w.heap[b]? ∧ w'.cell? ⟨b, o, none⟩ = w.cell? ⟨b, o, none⟩) → w.heap.size ≤ w'.heap.size →
      wpList Tryz.prog ops Q rest (a.put o.dst (.slice (some ⟨g, 0, none⟩) (N + 1) cap)) w') :
    wpList Tryz.prog ops Q (o :: rest) a (w.alloc (.cells #[.int .u64 z] 243)) := by
  subst hz hN
  obtain ⟨i0, hi, hz0, hz1, hz2⟩ := info_parts Tryz.info243
  refine wpList_append_fits _ hgd s x T ho g 243 i0 1 hT hi hz1 g l.length cap (u64s l) hs (World.ownsRow.alloc hown _) ⟨w.heap.size, 0, none⟩ 1 1 [.int .u64 d] hx rfl ?_ ?_ (by omega) ?_
  · exact cell_one_new' w d
  · intro u hu; simp at hu; subst hu; rfl
  · intro w' hown' hg
    have hsz := hg.size
    simp at hsz
    refine h w' ?_ ?_ ?_ (by omega)
    · unfold RowU
      have : u64s (l ++ [d]) = u64s l ++ [.int .u64 d] := by rw [u64s_append]; rfl
      rw [this, List.length_append]; exact hown'
    · intro B w0 hb hB
      have := hown.lt
      exact (hb.alloc (by omega) _).grown hg (by simp; omega) (fun k hk => by cases hk; exact hB)
    · intro b o hb hbg
      have h1 := hg.block b (by simp; omega) (by simp; exact hbg)
      have h2 := Below.heap_alloc w (.cells #[.int .u64 (d : Int)] 243) b hb
      have h3 : w'.heap[b]? = w.heap[b]? := h1.trans h2
      exact ⟨h3, World.cell?_of_block h3⟩

/-- v: as long as b, its first digit not 0 -/
theorem scaled_length {m : List Nat} {s : Nat} (hm : CB m) (hne : m ≠ []) (hs : 1 ≤ s) (hs2 : s * (nth m (m.length - 1) + 1) ≤ BB) : (digs BB (val BB m * s)).length = m.length := by
  have hpos : 0 < m.length := List.length_pos_iff.2 hne
  have h1 : val BB m < (nth m (m.length - 1) + 1) * BB ^ (m.length - 1) := by
    have e : val BB m = val BB (m.take (m.length - 1 + 1)) := by rw [List.take_of_length_le (by omega)]
    rw [take_val (by omega)] at e
    have := take_lt hm.1 (k := m.length - 1) (by omega)
    rw [Nat.add_mul, e]; omega
  have h2 : val BB m * s < BB ^ m.length := by
    have h3 : val BB m * s < (nth m (m.length - 1) + 1) * BB ^ (m.length - 1) * s := Nat.mul_lt_mul_of_pos_right h1 hs
    have h4 : s * (nth m (m.length - 1) + 1) * BB ^ (m.length - 1) ≤ BB * BB ^ (m.length - 1) := Nat.mul_le_mul_right _ hs2
    have e : (nth m (m.length - 1) + 1) * BB ^ (m.length - 1) * s = s * (nth m (m.length - 1) + 1) * BB ^ (m.length - 1) := by grind
    have e2 : BB ^ m.length = BB * BB ^ (m.length - 1) := by
      obtain ⟨p, hp⟩ : ∃ p, m.length = p + 1 := ⟨m.length - 1, by omega⟩
      rw [hp, Nat.add_sub_cancel, Nat.pow_succ, Nat.mul_comm]
    omega
  have h5 := digs_length_le BB_two h2
  have h6 : BB ^ (m.length - 1) ≤ val BB m * s := by
    have := val_pos hm hne
    have h7 : val BB m * 1 ≤ val BB m * s := Nat.mul_le_mul_left _ hs
    omega
  have h8 := lt_pow_digs_length BB_two (val BB m * s)
  have h9 : BB ^ (m.length - 1) < BB ^ (digs BB (val BB m * s)).length := by omega
  have := (Nat.pow_lt_pow_iff_right (show 1 < BB by decide)).1 h9
  omega

theorem scaled_u {l : List Nat} {s : Nat} (hl : CB l) (hs : s < BB) : (digs BB (val BB l * s)).length ≤ l.length + 1 := by
  have h1 := val_lt BB l hl.1
  refine digs_length_le BB_two ?_
  rw [Nat.pow_succ]
  have : (val BB l + 1) * s ≤ BB ^ l.length * s := Nat.mul_le_mul_right _ h1
  rw [Nat.add_mul] at this
  have h2 : BB ^ l.length * (s + 1) ≤ BB ^ l.length * BB := Nat.mul_le_mul_left _ hs
  rw [Nat.mul_add] at h2
  have h3 := pow_pos' l.length
  omega

/-- u with zeros behind it -/
def Padded (n : Nat) (lu : List Nat) : Prop := val BB lu = n ∧ ∀ x ∈ lu, x < BB
theorem padded_start (n : Nat) : Padded n (digs BB n) := ⟨val_digs BB_two n, (digs_can BB_two n).1⟩
theorem padded_step {n : Nat} {lu : List Nat} (h : Padded n lu) : Padded n (lu ++ [0]) := by
  refine ⟨by rw [val_snoc, Nat.mul_zero, Nat.add_zero]; exact h.1, fun x hx => ?_⟩
  rcases List.mem_append.1 hx with hx | hx
  · exact h.2 x hx
  · simp at hx; subst hx; decide

theorem div_start {l m lu : List Nat} {s : Nat} (hl : CB l) (hm : CB m) (hne : m ≠ []) (hs : 1 ≤ s) (hge : val BB m ≤ val BB l)
    (hv : (digs BB (val BB m * s)).length = m.length) (hu : Padded (val BB l * s) lu) (hlen : lu.length = l.length + 1) :
    DivRel lu (digs BB (val BB m * s)) (l.length + 1 - m.length) lu (List.replicate (l.length + 1 - m.length) 0) := by
  have hml := can_length_le hl hm hge
  refine ⟨rfl, hu.2, ?_, ?_, ?_, ?_, ?_⟩
  · intro j hj
    rw [hv] at hj
    simp [nth, List.getElem?_eq_none (show lu.length ≤ j by omega)]
  · rw [List.length_replicate, hv, hlen]; omega
  · intro x hx; rw [List.eq_of_mem_replicate hx]; decide
  · rw [List.drop_eq_nil_of_le (by simp)]; simp
  · rw [hu.1, val_digs BB_two]
    have h1 := val_lt BB l hl.1
    have h2 := val_pos hm hne
    have hpos : 0 < m.length := List.length_pos_iff.2 hne
    have e : BB ^ l.length = BB ^ (m.length - 1) * BB ^ (l.length + 1 - m.length) := by rw [← Nat.pow_add]; congr 1; omega
    have h3 : BB ^ (m.length - 1) * BB ^ (l.length + 1 - m.length) ≤ val BB m * BB ^ (l.length + 1 - m.length) := Nat.mul_le_mul_right _ h2
    have h4 : val BB l * s < val BB m * BB ^ (l.length + 1 - m.length) * s := Nat.mul_lt_mul_of_pos_right (by omega) hs
    have e2 : val BB m * s * BB ^ (l.length + 1 - m.length) = val BB m * BB ^ (l.length + 1 - m.length) * s := by grind
    omega

theorem div_end {a b s : Nat} {lu0 lv lu lo : List Nat} (h : DivRel lu0 lv 0 lu lo) (hu : val BB lu0 = a * s) (hv : val BB lv = b * s) (hs : 1 ≤ s) :
    val BB lo = a / b ∧ val BB lu = (a % b) * s := by
  have e := h.eq
  have hlt := h.lt
  simp only [Nat.pow_zero, Nat.one_mul, List.drop_zero, Nat.mul_one] at e hlt
  rw [hu, hv] at e
  rw [hv] at hlt
  have hb : 0 < b := by
    cases b with
    | zero => simp at hlt
    | succ b => omega
  have hdvd : val BB lu = (a - b * val BB lo) * s := by
    rw [Nat.sub_mul]
    have : b * s * val BB lo = b * val BB lo * s := by grind
    omega
  rw [hdvd] at hlt
  have h1 := Nat.lt_of_mul_lt_mul_right hlt
  have h2 : b * val BB lo ≤ a := by
    have h3 : b * val BB lo * s ≤ a * s := by
      have : b * s * val BB lo = b * val BB lo * s := by grind
      omega
    exact Nat.le_of_mul_le_mul_right h3 hs
  have h4 : a / b = val BB lo := by
    have : a = (a - b * val BB lo) + b * val BB lo := by omega
    rw [this, Nat.add_mul_div_left _ _ hb, Nat.div_eq_of_lt h1, Nat.zero_add]
  have h5 : a % b = a - b * val BB lo := by
    have := Nat.div_add_mod a b
    rw [h4] at this; omega
  rw [h4, h5]
  exact ⟨rfl, hdvd⟩
end Go.Proofs.YtnkgbocdpngldaaGreatDoor

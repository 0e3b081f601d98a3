/-
  text and size of package num on natural numbers. Conditions: the table of the powers of ten is as it is laid; fewer than 100000 digits.
-/
import Derived.Test.YtnkgbocdpngldaaGreatDoorZFmt
import Derived.Test.YtnkgbocdpngldaaGreatDoorZBld
import Derived.Test.YtnkgbocdpngldaaGreatDoorZNat
import Derived.Deep.LoopGhost
set_option linter.unusedVariables false
set_option linter.unusedSimpArgs false
namespace Go.Proofs.YtnkgbocdpngldaaGreatDoor
open Go.RowKit Dc Dg

theorem isB_fresh (w : World) : Lib.IsBuilder 266 5 w.heap.size w.heap.size [] (w.alloc (.cells #[.pointer none, .slice none 0 0] 266)) :=
  Or.inl ⟨Nat.le_refl _, .slice none 0 0, heap_alloc_new w _, World.ownsRow_nil _ _ _ _, by simp [Value.ownBlock]⟩

theorem isB_below {B b : Nat} {bs : List Value} {w w' : World} (h : Lib.IsBuilder 266 5 B b bs w) (hb : Below w.heap.size w w') : Lib.IsBuilder 266 5 B b bs w' := by
  have one : ∀ p, Lib.BuilderAt 266 5 B b p bs w → Lib.BuilderAt 266 5 B b p bs w' := by
    rintro p ⟨h1, v, h2, h3, h4⟩
    refine ⟨h1, v, by rw [hb.block b (Array.getElem?_eq_some_iff.1 h2).1]; exact h2, ?_, h4⟩
    obtain ⟨e, r⟩ := h3
    refine ⟨e, ?_⟩
    rcases r with r | ⟨g, cap, cur, e1, hg, hh, r⟩
    · exact Or.inl r
    · exact Or.inr ⟨g, cap, cur, e1, hg, by rw [hb.block g (Array.getElem?_eq_some_iff.1 hh).1]; exact hh, r⟩
  rcases h with h | h
  · exact Or.inl (one _ h)
  · exact Or.inr (one _ h)

theorem text_step {l : List Nat} {k : Nat} (hl : CB l) (h0 : 0 < k) (hk : k < l.length) :
    dec (val BB (l.drop (k - 1))) = dec (val BB (l.drop k)) ++ (List.replicate (9 - (dec (nth l (k - 1))).length) 48 ++ dec (nth l (k - 1))) := by
  have hd := nth_lt hl.1 (show k - 1 < l.length by omega)
  have hB : (10 : Nat) ^ 9 = BB := by decide
  rw [drop_pred h0 (by omega), val_cons]
  have hne : l.drop k ≠ [] := by intro e; have := congrArg List.length e; simp at this; omega
  have hc : CB (l.drop k) := ⟨fun d hd => hl.1 d (List.mem_of_mem_drop hd), fun hne => by rw [List.getLast_drop]; exact hl.2 _⟩
  have hp := val_pos hc hne
  have hpp : 0 < BB ^ ((l.drop k).length - 1) := Nat.pow_pos (by decide)
  have hge : 10 ^ 9 ≤ nth l (k - 1) + BB * val BB (l.drop k) := by
    rw [hB]
    have : BB * 1 ≤ BB * val BB (l.drop k) := Nat.mul_le_mul_left _ (by omega)
    omega
  rw [dec_split 9 _ hge, hB, Nat.add_mul_div_left _ _ (by decide), Nat.div_eq_of_lt hd, Nat.zero_add, Nat.add_mul_mod_self_left, Nat.mod_eq_of_lt hd]
  rw [low_eq 9 _ (by omega) (by rw [hB]; exact hd)]

theorem strCells_eq (t : ByteArray) : Lib.strCells t = Lib.byteCells t.data.toList := by simp [Lib.strCells, Lib.byteCells]
theorem byteCells_append (a b : List UInt8) : Lib.byteCells (a ++ b) = Lib.byteCells a ++ Lib.byteCells b := by simp [Lib.byteCells]
theorem text_top {l : List Nat} (h : 0 < l.length) : val BB (l.drop (l.length - 1)) = nth l (l.length - 1) := by
  rw [drop_pred h (Nat.le_refl _), List.drop_eq_nil_of_le (Nat.le_refl _)]; simp

theorem repeat_z (z : Int) (c : Nat) (w : World) (hz : z = c) (hc : c ≤ 100) :
    Calls Tryz.prog 196 #[.string ⟨#[48]⟩, .int .i64 z] w fun e w' => ∃ t : ByteArray, e = .returned (.string t) ∧ Hid (t.data.toList = List.replicate c 48) ∧ Hid (t.size = c) ∧ Below w.heap.size w w' := by
  subst hz
  refine (Tryz.strings_Repeat ⟨#[48]⟩ c w (by omega) (by show 1 * c ≤ _; omega)).mono ?_
  rintro e w' ⟨rfl, hb⟩
  have e1 : ∀ c, Lib.repeatL [48] c = List.replicate c 48 := by
    intro c
    induction c with
    | zero => rfl
    | succ c ih => simp [Lib.repeatL, ih, List.replicate_succ]
  refine ⟨_, rfl, e1 c, ?_, hb⟩
  show (Lib.repeatL [48] c).toArray.size = c
  rw [e1]; simp

theorem fmtUintS (z : Int) (u : Nat) (hz : z = u) (hu : u < 18446744073709551616) (w : World) (hG : Gw w) :
    Calls Tryz.prog 180 #[.int .u64 z, .int .i64 10] w fun e w' => ∃ t : ByteArray, e = .returned (.string t) ∧ Hid (t.data.toList = dec u) ∧ Hid (t.size = (dec u).length) ∧ t.size ≤ 20 ∧ Below w.heap.size w w' := by
  refine (fmtUint z u hz hu w hG.pow).mono ?_
  rintro e w' ⟨rfl, hb⟩
  exact ⟨_, rfl, rfl, rfl, dec_length_le (k := 20) (n := u) (by omega) (by omega), hb⟩

set_option maxRecDepth 100000 in
set_option maxHeartbeats 1000000 in
theorem text_any (va : Value) (l : List Nat) (w : World) (ha : IsU w va l) (hl : CB l) (hll : l.length < 100000) (hG : Gw w) :
    Calls Tryz.prog 179 #[va] w fun e w' => e = .returned (.string ⟨(dec (val BB l)).toArray⟩) ∧ Below w.heap.size w w' := by
  have ha' := ha
  obtain ⟨p, cap, rfl, hlc, hcm, hcell⟩ := ha'
  unfold maxLen at hcm
  by_cases h0 : l.length = 0
  · have hnil : l = [] := List.eq_nil_of_length_eq_zero h0
    have H := Lib.hid hnil
    clear hnil
    have h0' : ((l.length : Int) == 0) = true := by simp [h0]
    go_enter Tryz.func179, Tryz.ntmps179
    go_wp2
    go_ret
    refine ⟨?_, Below.refl _ _⟩
    rw [H.out, val_nil, dec_lt (by omega)]; rfl
  · have h0' : ((l.length : Int) == 0) = false := by simp; intro e; rw [e] at h0; simp at h0
    have hpos : 0 < l.length := by omega
    obtain ⟨b, o, rfl, hbw, hc⟩ := hcell hpos
    have hc1 := hc (l.length - 1) (by omega)
    have hb1 := nth_lt hl.1 (show l.length - 1 < l.length by omega)
    have hb1' : nth l (l.length - 1) < 1000000000 := hb1
    clear hb1 h0
    have hzero : (zeroValue 266).run Tryz.prog w = .ok (.agg #[.pointer none, .slice none 0 0]) w := by kernel_rfl
    go_enter Tryz.func179, Tryz.ntmps179
    go_wp2_with fail
    have hb0 : Below w.heap.size w (w.alloc (.cells #[.pointer none, .slice none 0 0] 266)) := (Below.refl _ _).alloc (Nat.le_refl _) _
    have HB0 := Lib.hid (isB_fresh w)
    have HG0 := Lib.hid (hG.below hb0)
    have HBL := Lib.hid hb0
    have hsz0 : (w.alloc (.cells #[.pointer none, .slice none 0 0] 266)).heap.size = w.heap.size + 1 := by simp
    have HSZ := Lib.hid hsz0
    clear hb0 hsz0 hzero hc1
    generalize w.alloc (.cells #[.pointer none, .slice none 0 0] 266) = w0 at HB0 HG0 HBL HSZ ⊢
    refine (fmtUintS _ _ rfl (by omega) w0 HG0.out).mono ?_
    rintro e w1 ⟨t, rfl, ht, htsz, _, hb1⟩
    have HBL1 := Lib.hid (HBL.out.trans (hb1.mono HBL.out.size))
    have HB1 := Lib.hid (isB_below HB0.out hb1)
    have hsz1 := hb1.size
    rw [HSZ.out] at hsz1
    have hlen1 := dec_length_le (k := 9) (n := nth l (l.length - 1)) (by omega) (by omega)
    have HT := ht
    have hts : t.size ≤ 9 := by rw [htsz.out]; exact hlen1
    clear hb1 HB0 HG0 HBL ht htsz hlen1
    go_wp2_with (go_at_call 195; refine (writeString_any w.heap.size w.heap.size [] _ w1 HB1.out (by simp only [List.length_nil]; omega) (by omega)).mono ?_; rintro e w2 ⟨rfl, hB2, hb2⟩)
    have hbw2 := HBL1.out.trans hb2
    have hB2' := hB2
    rw [List.nil_append, strCells_eq, HT.out, ← text_top hpos] at hB2'
    have HBS := Lib.hid hB2'
    have HBW := Lib.hid hbw2
    clear hB2 hB2' hbw2 hb2
    go_loopw [4] (fun s4 wr => ∃ k : Nat, k < l.length ∧ s4 = .int .i64 ((k : Int) - 1) ∧ Hid (Lib.IsBuilder 266 5 w.heap.size w.heap.size (Lib.byteCells (dec (val BB (l.drop k)))) wr) ∧ Hid ((dec (val BB (l.drop k))).length ≤ 9 * (l.length - k)) ∧ Hid (Below w.heap.size w wr)) (fun s4 _ => (intOf s4 + 1).toNat)
    case atStart => exact ⟨l.length - 1, by omega, by go_num, HBS, by unfold Hid; rw [text_top hpos]; have := dec_length_le (k := 9) (n := nth l (l.length - 1)) (by omega) (by omega); omega, HBW⟩
    case round =>
      obtain ⟨k, hk, rfl, hB, hBlen, hbl⟩ := hrel
      have hbs := hbl.out.size
      clear HBS HBW HB1 HBL1 HT hts
      by_cases h0 : k = 0
      · subst h0
        go_wp2_with (go_at_call 197; refine (Tryz.Builder_String_any w.heap.size w.heap.size _ wr hB.out (by omega)).mono ?_; rintro e w3 ⟨rfl, hb3⟩)
        go_ret
        exact ⟨rfl, hbl.out.trans hb3⟩
      · have h0' : 0 < k := by omega
        have hck := (hbl.out.cell (p := ⟨b, o + (k - 1), none⟩) hbw).trans (hc (k - 1) (by omega))
        have hd : nth l (k - 1) < 1000000000 := nth_lt hl.1 (by omega)
        have hlen2 := dec_length_le (k := 9) (n := nth l (k - 1)) (by omega) (by omega)
        have HGr := Lib.hid (hG.below hbl.out)
        go_wp2_with (go_at_call 180; refine (fmtUintS _ _ rfl (by omega) wr HGr.out).mono ?_; rintro e w3 ⟨t3, rfl, ht3, htsz3, ht20, hb3⟩)
        have HB3 := Lib.hid (isB_below hB.out hb3)
        have HBL3 := Lib.hid (hbl.out.trans (hb3.mono hbs))
        have hs3 := hb3.size
        have hts3 : t3.size ≤ 9 := by rw [htsz3.out]; exact hlen2
        clear hb3 hck hlen2
        refine (repeat_z _ (9 - t3.size) w3 (by omega) (by omega)).mono ?_
        rintro e w4 ⟨t4, rfl, ht4, htsz4, hb4⟩
        have HB4 := Lib.hid (isB_below HB3.out hb4)
        have HBL4 := Lib.hid (HBL3.out.trans (hb4.mono (by omega)))
        have hs4 := hb4.size
        have hts4 : t4.size ≤ 9 := by rw [htsz4.out]; omega
        clear hb4 HB3 HBL3
        have hbl9 := hBlen.out
        go_wp2_with fail
        have hsz43 : (t4 ++ t3).size = t4.size + t3.size := by simp
        refine (writeString_any w.heap.size w.heap.size _ _ w4 HB4.out (by rw [Lib.byteCells_length, hsz43]; omega) (by omega)).mono ?_
        rintro e w5 ⟨rfl, hB5, hb5⟩
        have hcat : (t4 ++ t3).data.toList = List.replicate (9 - (dec (nth l (k - 1))).length) 48 ++ dec (nth l (k - 1)) := by
          rw [ByteArray.data_append, Array.toList_append, ht4.out, ht3.out, htsz3.out]
        rw [strCells_eq, hcat, ← byteCells_append, ← text_step hl h0' hk] at hB5
        have HB5 := Lib.hid hB5
        have HBL5 := Lib.hid (HBL4.out.trans hb5)
        have hl5 : Hid ((dec (val BB (l.drop (k - 1)))).length ≤ 9 * (l.length - (k - 1))) := by
          unfold Hid
          rw [text_step hl h0' hk, List.length_append, List.length_append, List.length_replicate]
          have := htsz3.out
          omega
        clear hB5 hb5 hcat hsz43
        go_wp2
        go_roundw
        case rel => exact ⟨k - 1, by omega, by go_num, HB5, hl5, HBL5⟩
        case measure => simp [intOf]; omega
end Go.Proofs.YtnkgbocdpngldaaGreatDoor

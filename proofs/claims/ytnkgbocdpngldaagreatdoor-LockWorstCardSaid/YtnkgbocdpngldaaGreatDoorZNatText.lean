/-
  natText of package num: what its loops keep. Plain mathematics.
  The walk of natText of package num. Conditions: the text is shorter than 100000 bytes.
-/
import Derived.Test.YtnkgbocdpngldaaGreatDoorZNat
import Derived.Test.YtnkgbocdpngldaaGreatDoorZPlain
import Derived.Lib.PathFns
set_option linter.unusedVariables false
set_option linter.unusedSimpArgs false
namespace Go.Proofs.YtnkgbocdpngldaaGreatDoor
open Dg Dc

/-- natText: the digits in lo say what is behind t in s. -/
structure NTRel (s t : List UInt8) (lo : List Nat) : Prop where
  ex : ∃ r, s = t ++ r ∧ r.all isDig = true ∧ decVal r = Dg.val BB lo ∧ (t ≠ [] → r.length = 9 * lo.length)
  dig : ∀ d ∈ lo, d < BB
  few : 9 * lo.length ≤ s.length + 8

theorem nt_start (s : List UInt8) : NTRel s s [] := ⟨⟨[], by simp, rfl, rfl, fun _ => rfl⟩, by simp, by simp⟩

theorem nt_step {s t : List UInt8} {lo : List Nat} {k : Nat} (h : NTRel s t lo) (hk : k = t.length - 9) (hne : t ≠ []) (hd : (t.drop k).all isDig = true) :
    NTRel s (t.take k) (lo ++ [decVal (t.drop k)]) := by
  obtain ⟨r, e1, e2, e3, e4⟩ := h.ex
  have hr := e4 hne
  have hpos := List.length_pos_iff.2 hne
  have hlen : (t.drop k).length ≤ 9 := by rw [List.length_drop]; omega
  have hlt : decVal (t.drop k) < BB := by
    have h1 := decVal_lt _ hd
    have h2 : 10 ^ (t.drop k).length ≤ 10 ^ 9 := Nat.pow_le_pow_right (by omega) hlen
    have h3 : (10 : Nat) ^ 9 = BB := by decide
    omega
  refine ⟨⟨t.drop k ++ r, ?_, ?_, ?_, ?_⟩, ?_, ?_⟩
  · rw [← List.append_assoc, List.take_append_drop]; exact e1
  · rw [List.all_append, hd, e2]; rfl
  · rw [decVal_append, e3, val_snoc, hr]
    have : (10 : Nat) ^ (9 * lo.length) = BB ^ lo.length := by rw [Nat.pow_mul]; rfl
    rw [this, Nat.mul_comm]; omega
  · intro hk2
    have : k ≠ 0 := by intro e; rw [e] at hk2; simp at hk2
    simp only [List.length_append, List.length_drop, List.length_cons, List.length_nil]
    omega
  · intro d hd
    rcases List.mem_append.1 hd with hd | hd
    · exact h.dig d hd
    · simp at hd; subst hd; exact hlt
  · have := h.few
    have h5 : s.length = t.length + r.length := by rw [e1]; simp
    simp only [List.length_append, List.length_cons, List.length_nil]
    omega

/-- the number of a text of digits -/
def natTextS (s : List UInt8) : Option Nat := if s ≠ [] ∧ s.all isDig = true then some (decVal s) else none

theorem nt_end {s : List UInt8} {lo : List Nat} (h : NTRel s [] lo) : s.all isDig = true ∧ lean lo = digs BB (decVal s) := by
  obtain ⟨r, e1, e2, e3, _⟩ := h.ex
  simp only [List.nil_append] at e1
  subst e1
  exact ⟨e2, by rw [e3]; exact digs_lean BB_two h.dig⟩

theorem nt_bad {s t : List UInt8} {lo : List Nat} {i : Nat} (h : NTRel s t lo) (hi : i < t.length) (hb : isDig t[i] = false) : s.all isDig = false := by
  obtain ⟨r, e1, _⟩ := h.ex
  rw [e1, List.all_append]
  have : t.all isDig = false := by
    rw [Bool.eq_false_iff]
    intro ht
    have := List.all_eq_true.1 ht t[i] (List.getElem_mem hi)
    rw [hb] at this; cases this
  rw [this]; rfl

/-- the inner loop: from k to i all are digits, and n is their number. -/
structure NIn (t : List UInt8) (k i n : Nat) : Prop where
  all : ((t.drop k).take (i - k)).all isDig = true
  eq : n = decVal ((t.drop k).take (i - k))

theorem nin_start (t : List UInt8) (k : Nat) : NIn t k k 0 := ⟨by simp, by simp [decVal]⟩

theorem nin_bound {t : List UInt8} {k i n : Nat} (h : NIn t k i n) (hk : k = t.length - 9) (hi : i ≤ t.length) : n < 1000000000 := by
  have h1 := decVal_lt _ h.all
  have h2 : 10 ^ ((t.drop k).take (i - k)).length ≤ 10 ^ 9 := Nat.pow_le_pow_right (by omega) (by rw [List.length_take, List.length_drop]; omega)
  have h3 : (10 : Nat) ^ 9 = 1000000000 := by decide
  rw [h.eq]; omega

theorem nin_step {t : List UInt8} {k i n : Nat} (h : NIn t k i n) (hki : k ≤ i) (hi : i < t.length) (hd : isDig t[i] = true) : NIn t k (i + 1) (10 * n + (t[i].toNat - 48)) := by
  have e : (t.drop k).take (i + 1 - k) = (t.drop k).take (i - k) ++ [t[i]] := by
    rw [show i + 1 - k = i - k + 1 by omega, List.take_succ_eq_append_getElem (by rw [List.length_drop]; omega), List.getElem_drop]
    congr 2
    simp only [show k + (i - k) = i by omega]
  refine ⟨?_, ?_⟩
  · rw [e, List.all_append, h.all]; simp [hd]
  · rw [e, decVal_snoc, ← h.eq]

theorem nin_end {t : List UInt8} {k n : Nat} (h : NIn t k t.length n) : (t.drop k).all isDig = true ∧ n = decVal (t.drop k) := by
  have e : (t.drop k).take (t.length - k) = t.drop k := List.take_of_length_le (by rw [List.length_drop]; omega)
  have h1 := h.all
  have h2 := h.eq
  rw [e] at h1 h2
  exact ⟨h1, h2⟩
end Go.Proofs.YtnkgbocdpngldaaGreatDoor

namespace Go.Proofs.YtnkgbocdpngldaaGreatDoor
open Go.RowKit Dg Dc

theorem isDig_lo {c : UInt8} (h : (c.toNat : Int) < 48) : isDig c = false := by simp [isDig]; omega
theorem isDig_hi {c : UInt8} (h : (57 : Int) < (c.toNat : Int)) : isDig c = false := by simp [isDig]; omega
theorem isDig_mid {c : UInt8} (h1 : ¬ (c.toNat : Int) < 48) (h2 : ¬ (57 : Int) < (c.toNat : Int)) : isDig c = true := by simp [isDig]; omega

theorem extract_upto (s : ByteArray) (k : Nat) : (s.extract 0 k).data.toList = s.data.toList.take k := by simp
theorem bytes_toList (s : ByteArray) : s.toList = s.data.toList := by
  exact ByteArray.toList_eq s
/-- the two results -/
def NatTextPost (s : ByteArray) (w : World) (e : Ending) (w' : World) : Prop :=
  (∃ n v, natTextS s.data.toList = some n ∧ e = .returned (.tuple #[v, .bool true]) ∧ OwnU w' w.heap.size v (digs BB n) ∧ Below w.heap.size w w') ∨
  (natTextS s.data.toList = none ∧ e = .returned (.tuple #[.slice none 0 0, .bool false]) ∧ Below w.heap.size w w')

theorem OwnU.lean {w : World} {base : Nat} {p : Option Addr} {N cap : Nat} {l : List Nat} (h : OwnU w base (.slice p N cap) l) : OwnU w base (.slice p (Dg.lean l).length cap) (Dg.lean l) := by
  obtain ⟨h1, h2⟩ := h
  refine ⟨by rw [u64s_length, Nat.mul_one], ?_⟩
  have hle := lean_length_le l
  rcases h2 with ⟨h', h0⟩ | ⟨g', cap', cur, e, hb, hg, hn, hm, hs, ht⟩
  · simp at h'
    obtain ⟨rfl, _, rfl⟩ := h'
    refine Or.inl ⟨by rw [show (Dg.lean l).length = 0 by omega], by omega⟩
  · simp at e
    obtain ⟨rfl, _, rfl⟩ := e
    refine Or.inr ⟨g', cap, cur, rfl, hb, hg, Nat.le_trans hle hn, hm, hs, ?_⟩
    rw [Nat.mul_one] at ht ⊢
    have : List.take (Dg.lean l).length (List.take l.length cur.toList) = u64s (Dg.lean l) := by rw [ht, ← u64s_take, lean_take]
    rw [List.take_take, Nat.min_eq_left hle] at this
    exact this

set_option maxRecDepth 100000 in
set_option maxHeartbeats 1000000 in
theorem natText_any (s : ByteArray) (w : World) (hs : s.size < 100000) :
    Calls Tryz.prog 154 #[.string s] w (NatTextPost s w) := by
  by_cases hne : s.data.toList = []
  · have hne' : s.toList.isEmpty = true := by rw [bytes_toList, hne]; rfl
    have HN := Lib.hid hne
    clear hne
    go_enter Tryz.func154, Tryz.ntmps154
    go_wp2
    go_ret2
    exact Or.inr ⟨by simp [natTextS, HN.out], rfl, Below.refl _ _⟩
  · have hne' : s.toList.isEmpty = false := by rw [bytes_toList]; exact List.isEmpty_eq_false_iff.2 hne
    have HN := Lib.hid hne
    clear hne
    go_enter Tryz.func154, Tryz.ntmps154
    go_wp2
    go_loopw [0, 4] (fun s0 s4 wr => ∃ (t : ByteArray) (lo : List Nat), s0 = .string t ∧ t.size ≤ s.size ∧ Hid (NTRel s.data.toList t.data.toList lo) ∧ Hid (OwnU wr w.heap.size s4 lo) ∧ Below w.heap.size w wr) (fun s0 _ _ => match s0 with | .string t => t.size | _ => 0)
    case atStart => exact ⟨s, [], rfl, Nat.le_refl _, nt_start _, World.ownsRow_nil _ _ _ _, Below.refl _ _⟩
    case round =>
      obtain ⟨t, lo, rfl, hts, hrel1, hown, hb⟩ := hrel
      by_cases h0 : t.size = 0
      · have ht : t.data.toList = [] := by apply List.eq_nil_of_length_eq_zero; simpa using h0
        have hend := hrel1.out
        rw [ht] at hend
        have HE := Lib.hid (nt_end hend)
        have ho := hown.out
        have hu := ho.isU
        obtain ⟨p, cap, rfl, _, _, _⟩ := hu
        clear hend
        go_wp2_with (go_at_call 176; refine (lean_any _ _ _ lo _ (OwnU.isU hown.out)).mono ?_; rintro e w' ⟨rfl, rfl⟩)
        go_ret2
        refine Or.inl ⟨decVal s.data.toList, _, ?_, rfl, ?_, hb⟩
        · unfold natTextS; rw [if_pos ⟨HN.out, HE.out.1⟩]
        · rw [← HE.out.2]; exact OwnU.lean hown.out
      · have htl : t.data.toList.length = t.size := by simp
        have HTL := Lib.hid htl
        clear htl
        obtain ⟨k, hk⟩ : ∃ k : Nat, k = t.size - 9 := ⟨_, rfl⟩
        have HK := Lib.hid hk
        have hkle : k ≤ t.size := by omega
        by_cases h9 : 9 < t.size
        · have hkI : (t.size : Int) - 9 = k := by omega
          clear hk
          have h0n : 0 < t.size := by omega
          go_wp2
          go_loopw [6, 7] (fun s6 s7 wq => ∃ n i : Nat, s6 = .int .u64 n ∧ s7 = .int .i64 i ∧ k ≤ i ∧ i ≤ t.size ∧ Hid (NIn t.data.toList k i n) ∧ wr = wq) (fun _ s7 _ => t.size - (intOf s7).toNat)
          case atStart => exact ⟨0, k, rfl, by go_num, Nat.le_refl _, hkle, nin_start _ _, rfl⟩
          case round =>
            obtain ⟨n, i, rfl, rfl, hki, hit, hin, rfl⟩ := hrel
            by_cases hi : i < t.size
            · have hnb := nin_bound hin.out (by rw [HTL.out]; exact HK.out) (by rw [HTL.out]; exact hit)
              have hil : i < t.data.toList.length := by rw [HTL.out]; exact hi
              have hbyte : Hid (t.data.toList[i] = t[i]) := rfl
              rcases (by omega : (t[i].toNat : Int) < 48 ∨ (57 : Int) < (t[i].toNat : Int) ∨ (48 ≤ (t[i].toNat : Int) ∧ (t[i].toNat : Int) ≤ 57)) with hc | hc | ⟨hc, hc2⟩
              · go_wp2
                go_ret2
                refine Or.inr ⟨?_, rfl, hb⟩
                unfold natTextS; rw [if_neg]
                intro h
                have := nt_bad hrel1.out hil (by rw [hbyte.out]; exact isDig_lo hc)
                rw [this] at h; exact absurd h.2 (by simp)
              · go_wp2
                go_ret2
                refine Or.inr ⟨?_, rfl, hb⟩
                unfold natTextS; rw [if_neg]
                intro h
                have := nt_bad hrel1.out hil (by rw [hbyte.out]; exact isDig_hi hc)
                rw [this] at h; exact absurd h.2 (by simp)
              · go_wp2
                go_roundw
                case rel =>
                  have hst := nin_step hin.out hki hil (by rw [hbyte.out]; exact isDig_mid (by omega) (by omega))
                  rw [hbyte.out] at hst
                  exact ⟨10 * n + (t[i].toNat - 48), i + 1, by go_num, by go_num, by omega, by omega, hst, trivial⟩
                case measure => simp [intOf]; omega
            · have hit2 : i = t.size := by omega
              subst hit2
              clear hi hit
              have hend := nin_end (k := k) (n := n) (by rw [HTL.out]; exact hin.out)
              have hnb := nin_bound hin.out (by rw [HTL.out]; exact HK.out) (by rw [HTL.out]; exact Nat.le_refl _)
              have HE := Lib.hid hend
              clear hend
              have hlo := hrel1.out.few
              have hsl : s.data.toList.length = s.size := by simp
              rw [hsl] at hlo
              have hbs := hb.size
              clear hsl
              go_wp2_with (at_builtin; refine wpList_append_u 189 Tryz.underlying189 rfl (.tmp 42) (.tmp 44) rfl w.heap.size _ lo _ n rfl rfl hown.out rfl (by omega) hbs ?_)
              intro v' w1 hown' hb'
              have hb1 := hb' _ _ hb (Nat.le_refl _)
              have HO := Lib.hid hown'
              clear hown' hb'
              go_wp2
              go_roundw
              case rel => exact ⟨_, lo ++ [n], rfl, by simp; omega, (by unfold Hid; have hst := nt_step hrel1.out (by rw [HTL.out]; exact HK.out) (by intro e; have := HTL.out; rw [e] at this; simp at this; omega) HE.out.1; rw [← HE.out.2] at hst; rw [extract_upto]; exact hst), HO, hb1⟩
              case measure => simp; omega
        · have hk0 : k = 0 := by omega
          have HK0 := Lib.hid hk0
          clear hk hk0
          have h0n : 0 < t.size := by omega
          go_wp2
          go_loopw [6, 7] (fun s6 s7 wq => ∃ n i : Nat, s6 = .int .u64 n ∧ s7 = .int .i64 i ∧ k ≤ i ∧ i ≤ t.size ∧ Hid (NIn t.data.toList k i n) ∧ wr = wq) (fun _ s7 _ => t.size - (intOf s7).toNat)
          case atStart => exact ⟨0, k, rfl, by rw [HK0.out]; rfl, Nat.le_refl _, hkle, nin_start _ _, rfl⟩
          case round =>
            obtain ⟨n, i, rfl, rfl, hki, hit, hin, rfl⟩ := hrel
            by_cases hi : i < t.size
            · have hnb := nin_bound hin.out (by rw [HTL.out]; exact HK.out) (by rw [HTL.out]; exact hit)
              have hil : i < t.data.toList.length := by rw [HTL.out]; exact hi
              have hbyte : Hid (t.data.toList[i] = t[i]) := rfl
              rcases (by omega : (t[i].toNat : Int) < 48 ∨ (57 : Int) < (t[i].toNat : Int) ∨ (48 ≤ (t[i].toNat : Int) ∧ (t[i].toNat : Int) ≤ 57)) with hc | hc | ⟨hc, hc2⟩
              · go_wp2
                go_ret2
                refine Or.inr ⟨?_, rfl, hb⟩
                unfold natTextS; rw [if_neg]
                intro h
                have := nt_bad hrel1.out hil (by rw [hbyte.out]; exact isDig_lo hc)
                rw [this] at h; exact absurd h.2 (by simp)
              · go_wp2
                go_ret2
                refine Or.inr ⟨?_, rfl, hb⟩
                unfold natTextS; rw [if_neg]
                intro h
                have := nt_bad hrel1.out hil (by rw [hbyte.out]; exact isDig_hi hc)
                rw [this] at h; exact absurd h.2 (by simp)
              · go_wp2
                go_roundw
                case rel =>
                  have hst := nin_step hin.out hki hil (by rw [hbyte.out]; exact isDig_mid (by omega) (by omega))
                  rw [hbyte.out] at hst
                  exact ⟨10 * n + (t[i].toNat - 48), i + 1, by go_num, by go_num, by omega, by omega, hst, trivial⟩
                case measure => simp [intOf]; omega
            · have hit2 : i = t.size := by omega
              subst hit2
              clear hi hit
              have hend := nin_end (k := k) (n := n) (by rw [HTL.out]; exact hin.out)
              have hnb := nin_bound hin.out (by rw [HTL.out]; exact HK.out) (by rw [HTL.out]; exact Nat.le_refl _)
              have HE := Lib.hid hend
              clear hend
              have hlo := hrel1.out.few
              have hsl : s.data.toList.length = s.size := by simp
              rw [hsl] at hlo
              have hbs := hb.size
              clear hsl
              go_wp2_with (at_builtin; refine wpList_append_u 189 Tryz.underlying189 rfl (.tmp 42) (.tmp 44) rfl w.heap.size _ lo _ n rfl rfl hown.out rfl (by omega) hbs ?_)
              intro v' w1 hown' hb'
              have hb1 := hb' _ _ hb (Nat.le_refl _)
              have HO := Lib.hid hown'
              clear hown' hb'
              go_wp2
              go_roundw
              case rel => exact ⟨_, lo ++ [n], rfl, by simp, (by unfold Hid; have hst := nt_step hrel1.out (by rw [HTL.out]; exact HK.out) (by intro e; have := HTL.out; rw [e] at this; simp at this; omega) HE.out.1; rw [← HE.out.2] at hst; rw [HK0.out, List.take_zero] at hst; exact hst), HO, hb1⟩
              case measure => simp; omega
end Go.Proofs.YtnkgbocdpngldaaGreatDoor

/-
  Are two lists of numbers one? Are two lists of events one?
-/
import Derived.Test.YtnkgbocdpngldaaGreatDoorZLock6
import Derived.BigQuiet
import Derived.Laws.StructEq
set_option linter.unusedVariables false
set_option linter.unusedSimpArgs false
namespace Go.Proofs.YtnkgbocdpngldaaGreatDoor
open Go.RowKit Dc Dg

/-- events in memory -/
structure EvsQ (w : World) (v : Value) (l : List Ev) : Prop where
  at_ : ∃ p c, v = .slice p l.length c ∧ (0 < l.length → ∃ b o, p = some ⟨b, o, none⟩ ∧ b < w.heap.size ∧ ∀ i (h : i < l.length), w.cell? ⟨b, o + i * 2, none⟩ = some (.int .i64 l[i].g) ∧ w.cell? ⟨b, o + i * 2 + 1, none⟩ = some (.int .i64 l[i].k))
theorem EvsQ.below {w w' : World} {v : Value} {l : List Ev} (h : EvsQ w v l) (hb : Below w.heap.size w w') : EvsQ w' v l := by
  obtain ⟨p, c, e, hc⟩ := h.at_
  refine ⟨p, c, e, fun hl => ?_⟩
  obtain ⟨b, o, e2, hlt, hi⟩ := hc hl
  exact ⟨b, o, e2, Nat.lt_of_lt_of_le hlt hb.size, fun i hi2 => ⟨(hb.cell (p := ⟨b, _, none⟩) hlt).trans (hi i hi2).1, (hb.cell (p := ⟨b, _, none⟩) hlt).trans (hi i hi2).2⟩⟩
theorem take_same {α : Type} {la lb : List α} {i : Nat} (ha : i < la.length) (hb : i < lb.length) (h : la.take i = lb.take i) (hi : la[i] = lb[i]) : la.take (i + 1) = lb.take (i + 1) := by
  rw [List.take_add_one, List.take_add_one, h, List.getElem?_eq_getElem ha, List.getElem?_eq_getElem hb, hi]
set_option maxRecDepth 100000 in
set_option maxHeartbeats 1000000 in
theorem sameIntsN (va vb : Value) (la lb : List Int) (w : World) (ha : IntsQ w va la) (hb : IntsQ w vb lb) (hn : la.length ≤ 1000000) (hm : lb.length ≤ 1000000) :
    Calls Tryz.prog 55 #[va, vb] w fun e w' => e = .returned (.bool (decide (la = lb))) ∧ Below w.heap.size w w' := by
  obtain ⟨p, c, rfl, hc⟩ := ha.at_
  obtain ⟨q, d, rfl, hd⟩ := hb.at_
  have HA := Lib.hid hc
  have HB := Lib.hid hd
  clear ha hb hc hd
  go_enter Tryz.func55, Tryz.ntmps55
  by_cases hl : la.length = lb.length
  · have hd : (((la.length : Nat) : Int) == ((lb.length : Nat) : Int)) = true := by simp [hl]
    have HL := Lib.hid hl
    obtain ⟨n, hna⟩ : ∃ n, n = la.length := ⟨_, rfl⟩
    obtain ⟨m, hmb⟩ : ∃ m, m = lb.length := ⟨_, rfl⟩
    rw [← hna, ← hmb] at hd
    rw [← hna] at hn
    rw [← hmb] at hm
    rw [← hna, ← hmb]
    have HN := Lib.hid hna
    have HM := Lib.hid hmb
    clear hna hmb hl
    go_wp2_with fail
    go_loopw [5] (fun s5 wr => ∃ i : Nat, s5 = .int .i64 i ∧ i ≤ n ∧ Below w.heap.size w wr ∧ Hid (la.take i = lb.take i)) (fun s5 _ => n - (intOf s5).toNat)
    case atStart => exact ⟨0, rfl, by omega, Below.refl _ _, rfl⟩
    case round =>
      obtain ⟨i, rfl, hi, hbl, hx⟩ := hrel
      by_cases hil : i < n
      · have hia : i < la.length := by have := HN.out; omega
        have hib : i < lb.length := by have := HL.out; omega
        obtain ⟨b, o, rfl, hbw, hcs⟩ := HA.out (by omega)
        obtain ⟨b2, o2, rfl, hbw2, hcs2⟩ := HB.out (by omega)
        have e0 := (hbl.cell (p := ⟨b, _, none⟩) hbw).trans (hcs i hia)
        have e1 := (hbl.cell (p := ⟨b2, _, none⟩) hbw2).trans (hcs2 i hib)
        obtain ⟨x, hx1⟩ : ∃ x, x = la[i] := ⟨_, rfl⟩
        obtain ⟨y, hy1⟩ : ∃ y, y = lb[i] := ⟨_, rfl⟩
        rw [← hx1] at e0
        rw [← hy1] at e1
        have HX := Lib.hid hx1
        have HY := Lib.hid hy1
        have him : i < m := by have := HM.out; have := HL.out; have := HN.out; omega
        clear hx1 hy1 hcs hcs2
        by_cases hxy : x = y
        · have hd2 : (x == y) = true := by simp [hxy]
          have HXY := Lib.hid hxy
          clear hxy
          go_wp2_with fail
          go_quiet (fail)
          go_wp2_with fail
          go_roundw
          case rel => exact ⟨i + 1, by go_num, by omega, below_drewN hbl _, take_same hia hib hx.out (by rw [← HX.out, ← HY.out]; exact HXY.out)⟩
          case measure => simp [intOf]; omega
        · have hd2 : (x == y) = false := by simp [hxy]
          have HXY := Lib.hid hxy
          clear hxy
          go_wp2_with fail
          go_quiet (fail)
          go_wp2_with fail
          go_ret
          have hne : ¬ la = lb := fun e => HXY.out (by rw [HX.out, HY.out]; simp [e])
          exact ⟨by simp [hne], below_drewN hbl _⟩
      · have hie : i = n := by omega
        subst hie
        clear hil hi
        go_wp2_with fail
        go_ret
        have he : la = lb := by
          have h1 := hx.out
          rw [List.take_of_length_le (by have := HN.out; omega), List.take_of_length_le (by have := HN.out; have := HL.out; omega)] at h1
          exact h1
        exact ⟨by simp [he], hbl⟩
  · have hd : (((la.length : Nat) : Int) == ((lb.length : Nat) : Int)) = false := by simp; omega
    go_wp2_with fail
    go_ret
    have hne : ¬ la = lb := fun e => hl (by rw [e])
    exact ⟨by simp [hne], Below.refl _ _⟩
theorem run_eqEv (w : World) (n : Nat) (a b c d : Int) : (Op.equalIn (n + 1 + 1) 53 (.agg #[.int .i64 a, .int .i64 b]) (.agg #[.int .i64 c, .int .i64 d])).run Tryz.prog w = .ok (a == c && b == d) w := by
  have hs : Tryz.prog.stoodInHeld 53 = false := by kernel_rfl
  have c3 : Tryz.prog.cellsOf 3 = 1 := cells3
  have hu := Tryz.underlying53
  have h3 := und3
  rw [run_equalIn_struct w _ _ _ _ (by simp [Program.fieldsOf, hu]) hs]
  simp [go_sem, Program.fieldsOf, hu, Op.eqFields]
  by_cases h1 : a = c <;> by_cases h2 : b = d <;> simp [h1, h2]
theorem guardEv : Tryz.prog.eqGuardType Tryz.prog.depth 53 = false := by kernel_rfl
theorem run_eqEv2 (w : World) (a b c d : Int) : (Op.equalIn 10000 53 (.agg #[.int .i64 a, .int .i64 b]) (.agg #[.int .i64 c, .int .i64 d])).run Tryz.prog w = .ok (a == c && b == d) w := run_eqEv w _ a b c d
set_option maxRecDepth 100000 in
set_option maxHeartbeats 1000000 in
theorem sameEventsN (va vb : Value) (la lb : List Ev) (w : World) (ha : EvsQ w va la) (hb : EvsQ w vb lb) (hn : la.length ≤ 1000000) (hm : lb.length ≤ 1000000) :
    Calls Tryz.prog 15 #[va, vb] w fun e w' => e = .returned (.bool (decide (la = lb))) ∧ Below w.heap.size w w' := by
  obtain ⟨p, c, rfl, hc⟩ := ha.at_
  obtain ⟨q, d, rfl, hd⟩ := hb.at_
  have HA := Lib.hid hc
  have HB := Lib.hid hd
  clear ha hb hc hd
  go_enter Tryz.func15, Tryz.ntmps15
  by_cases hl : la.length = lb.length
  · have hd : (((la.length : Nat) : Int) == ((lb.length : Nat) : Int)) = true := by simp [hl]
    have HL := Lib.hid hl
    obtain ⟨n, hna⟩ : ∃ n, n = la.length := ⟨_, rfl⟩
    obtain ⟨m, hmb⟩ : ∃ m, m = lb.length := ⟨_, rfl⟩
    rw [← hna, ← hmb] at hd
    rw [← hna] at hn
    rw [← hmb] at hm
    rw [← hna, ← hmb]
    have HN := Lib.hid hna
    have HM := Lib.hid hmb
    clear hna hmb hl
    go_wp2_with fail
    go_loopw [5] (fun s5 wr => ∃ i : Nat, s5 = .int .i64 i ∧ i ≤ n ∧ Below w.heap.size w wr ∧ Hid (la.take i = lb.take i)) (fun s5 _ => n - (intOf s5).toNat)
    case atStart => exact ⟨0, rfl, by omega, Below.refl _ _, rfl⟩
    case round =>
      obtain ⟨i, rfl, hi, hbl, hx⟩ := hrel
      by_cases hil : i < n
      · have hia : i < la.length := by have := HN.out; omega
        have hib : i < lb.length := by have := HL.out; omega
        obtain ⟨b, o, rfl, hbw, hcs⟩ := HA.out (by omega)
        obtain ⟨b2, o2, rfl, hbw2, hcs2⟩ := HB.out (by omega)
        have e0 := (hbl.cell (p := ⟨b, _, none⟩) hbw).trans (hcs i hia).1
        have e1 := (hbl.cell (p := ⟨b2, _, none⟩) hbw2).trans (hcs2 i hib).1
        have e2 := (hbl.cell (p := ⟨b, _, none⟩) hbw).trans (hcs i hia).2
        have e3 := (hbl.cell (p := ⟨b2, _, none⟩) hbw2).trans (hcs2 i hib).2
        obtain ⟨x, hx1⟩ : ∃ x, x = la[i] := ⟨_, rfl⟩
        obtain ⟨y, hy1⟩ : ∃ y, y = lb[i] := ⟨_, rfl⟩
        rw [← hx1] at e0 e2
        rw [← hy1] at e1 e3
        have HX := Lib.hid hx1
        have HY := Lib.hid hy1
        have him : i < m := by have := HM.out; have := HL.out; have := HN.out; omega
        clear hx1 hy1 hcs hcs2
        obtain ⟨xg, xk⟩ := x
        obtain ⟨yg, yk⟩ := y
        simp only at e0 e1 e2 e3
        have heq := fun w => run_eqEv2 w xg xk yg yk
        have hgd := guardEv
        by_cases hxy : xg = yg ∧ xk = yk
        · obtain ⟨rfl, rfl⟩ := hxy
          go_wp2_with fail
          go_quiet (fail)
          go_wp2_with fail
          go_roundw
          case rel => exact ⟨i + 1, by go_num, by omega, below_drewN hbl _, take_same hia hib hx.out (by rw [← HX.out, ← HY.out])⟩
          case measure => simp [intOf]; omega
        · have hxy2 : ¬ (Ev.mk xg xk) = ⟨yg, yk⟩ := by simpa using hxy
          have HXY := Lib.hid hxy2
          have hd2 : (xg == yg && xk == yk) = false := by simp; simpa using hxy
          clear hxy2
          go_wp2_with fail
          go_quiet (fail)
          go_wp2_with fail
          go_ret
          have hne : ¬ la = lb := fun e => HXY.out (by rw [HX.out, HY.out]; simp [e])
          exact ⟨by simp [hne], below_drewN hbl _⟩
      · have hie : i = n := by omega
        subst hie
        clear hil hi
        go_wp2_with fail
        go_ret
        have he : la = lb := by
          have h1 := hx.out
          rw [List.take_of_length_le (by have := HN.out; omega), List.take_of_length_le (by have := HN.out; have := HL.out; omega)] at h1
          exact h1
        exact ⟨by simp [he], hbl⟩
  · have hd : (((la.length : Nat) : Int) == ((lb.length : Nat) : Int)) = false := by simp; omega
    go_wp2_with fail
    go_ret
    have hne : ¬ la = lb := fun e => hl (by rw [e])
    exact ⟨by simp [hne], Below.refl _ _⟩
end Go.Proofs.YtnkgbocdpngldaaGreatDoor

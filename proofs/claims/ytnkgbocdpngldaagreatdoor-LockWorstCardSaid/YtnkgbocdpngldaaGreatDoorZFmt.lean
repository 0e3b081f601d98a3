/-
  strconv.FormatUint at base 10 (after the library's own proof of FormatInt). Conditions: the table of the powers of ten is as it is laid.
-/
import Derived.Test.YtnkgbocdpngldaaGreatDoorZMach
import Derived.Test.YtnkgbocdpngldaaGreatDoorZPlain
import Derived.Test.YtnkgbocdpngldaaGreatDoorShelf
import Derived.Lib.ItoaMem
set_option linter.unusedVariables false
set_option linter.unusedSimpArgs false
namespace Go.Proofs.YtnkgbocdpngldaaGreatDoor
open Go.RowKit Dc Go.Shelf

theorem dec_eq (n : Nat) : Lib.decDigits n = dec n := by
  induction n using Nat.strongRecOn with
  | ind n ih =>
    by_cases h : n < 10
    · rw [dec_lt h, Lib.decDigits, dif_pos h]; rfl
    · rw [dec_ge (by omega), Lib.decDigits, dif_neg h, ih (n / 10) (by omega)]; rfl

theorem fin_zero (w : World) (o : Obj) (dk : Array UInt8) (k : Nat) : Below w.heap.size w ((Go.Sort.putRow (fun (b : UInt8) => Value.int .u8 (b.toNat : Int)) (w.alloc o) w.heap.size 0 dk).drewN k) := by
  rw [Go.Sort.alloc_eq_grow]
  obtain ⟨os', _, e⟩ := Go.Sort.putRow_grow_new (fun (b : UInt8) => Value.int .u8 (b.toNat : Int)) w #[o] w.heap.size 0 dk (Nat.le_refl _)
  rw [e]
  exact ⟨rfl, rfl, rfl, by show w.heap.size ≤ (w.heap ++ os').size; simp, fun j hj => by show (w.heap ++ os')[j]? = _; rw [Array.getElem?_append_left hj]⟩

theorem holds_zero0 (w : World) (T : TypeId) (nd : Nat) (hs : nd ≤ 24) : Go.Sort.Holds (fun (b : UInt8) => Value.int .u8 (b.toNat : Int)) (w.alloc (.cells Lib.zeros24 T)) w.heap.size 0 (Array.replicate nd (0 : UInt8)) := fun j hj => by
  have hj' : j < nd := by simpa using hj
  refine ⟨?_, World.frozen?_alloc_new _ _ _ _⟩
  rw [World.cell?_alloc_new, Lib.zeros24_at _ (by omega), getElem!_pos _ j hj]
  simp

/-- the table of the powers of ten, as it is laid -/
def Pow10 (w : World) : Prop := Lib.TabIs Tryz.prog w "internal/strconv.uint64pow10" .u64 Lib.pow10Tab

theorem pow10_named : Tryz.prog.globalNamed "internal/strconv.uint64pow10" = some 5 := by kernel_rfl

/-- what the walks ask of the world's variables -/
structure Gw (w : World) : Prop where
  pow : Pow10 w
  ml : ∃ m, w.cell? ⟨2, 0, none⟩ = some (.int .i64 m)
  sz : 8 ≤ w.heap.size

theorem Gw.below {w w' : World} (h : Gw w) (hb : Below w.heap.size w w') : Gw w' := by
  have hs := h.sz
  refine ⟨?_, ?_, Nat.le_trans hs hb.size⟩
  · have hp := h.pow
    unfold Pow10 Lib.TabIs World.var? at *
    rw [pow10_named] at *
    simp only [Option.bind_some] at *
    rw [hb.block 5 (by omega)]; exact hp
  · obtain ⟨m, hm⟩ := h.ml
    exact ⟨m, (hb.cell (p := ⟨2, 0, none⟩) (by show 2 < w.heap.size; omega)).trans hm⟩

set_option maxHeartbeats 6400000 in
set_option maxRecDepth 100000 in
theorem fmtUintInner (u : Nat) (hu : u < 18446744073709551616) (w : World) (htab : Pow10 w) :
    Calls Tryz.prog 198 #[.int .u64 u, .int .i64 10] w fun e w' => e = .returned (.string ⟨(dec u).toArray⟩) ∧ Below w.heap.size w w' := by
  rw [← dec_eq]
  by_cases hs : u < 100
  · go_enter Tryz.func198, Tryz.ntmps198
    go_wp2_with (go_at_call 214; refine (Tryz.internal_strconv_small u hs _).mono ?_; rintro e w' ⟨rfl, rfl⟩)
    go_ret
    exact ⟨rfl, Below.refl _ _⟩
  · have hu1 : 1 ≤ u := by omega
    have hnd20 : Lib.nDigits u ≤ 20 := by have := Lib.numDigits_eq u hu1 hu; split at this <;> omega
    have hb3 : Lib.nDigits u ≤ 24 := by omega
    have hal : Tryz.prog.arrayLen 277 = 24 := by kernel_rfl
    have hsl1 : ∀ W, (Instr.sliceAt 277 (.pointer (some ⟨w.heap.size, 0, none⟩)) none (some (.int .i64 (Lib.nDigits u : Int))) none).run Tryz.prog W = .ok (.slice (some ⟨w.heap.size, 0, none⟩) (Lib.nDigits u) 24) W := fun W => by
      rw [run_sliceAt_array_h W 277 ⟨w.heap.size, 0, none⟩ (by kernel_rfl) .i64 (Lib.nDigits u : Int) (by omega) (by rw [hal]; omega)]
      go_simp
    have hH0 := holds_zero0 w 277 (Lib.nDigits u) hb3
    have hfmt := Tryz.internal_strconv_formatBase10 w.heap.size 0 24 u (Array.replicate (Lib.nDigits u) 0) (w.alloc (.cells Lib.zeros24 277)) hH0 (by rw [Array.size_replicate]; exact Lib.lt_pow_nDigits u) hu (by rw [Array.size_replicate]; omega)
    rw [Array.size_replicate] at hfmt
    have HH0 := Lib.hid hH0
    clear hH0 hal
    go_enter Tryz.func198, Tryz.ntmps198
    go_wp2_with (first
        | (go_at_call 215; refine (Tryz.internal_strconv_numDigits u hu1 hu _ (Lib.tabIs_alloc htab _)).mono ?_; rintro e w' ⟨rfl, rfl⟩))
    go_at_call 216
    refine hfmt.mono ?_
    rintro e w' ⟨rfl, k, v', dk, rfl, hF⟩
    have hal : Tryz.prog.arrayLen 277 = 24 := by kernel_rfl
    have hcv : (convert 232 9 (.slice (some ⟨w.heap.size, 0, none⟩) (Lib.nDigits u) 24)).run Tryz.prog ((Go.Sort.putRow (fun (b : UInt8) => Value.int .u8 (b.toNat : Int)) (w.alloc (.cells Lib.zeros24 277)) w.heap.size 0 dk).drewN k) = .ok (.string ⟨(Lib.decDigits u).toArray⟩) ((Go.Sort.putRow (fun (b : UInt8) => Value.int .u8 (b.toNat : Int)) (w.alloc (.cells Lib.zeros24 277)) w.heap.size 0 dk).drewN k) := by
      have h := run_convert_bytes_back (P := Tryz.prog) ((Go.Sort.putRow (fun (b : UInt8) => Value.int .u8 (b.toNat : Int)) (w.alloc (.cells Lib.zeros24 277)) w.heap.size 0 dk).drewN k) 232 9 5 ⟨w.heap.size, 0, none⟩ 24 (Lib.decDigits u) Tryz.underlying232 Tryz.underlying5 Tryz.underlying9 (fun j hj => by
          rw [Lib.row_is_numeral hF j hj, Lib.add_plain, World.cell?_drewN]
          exact Go.Sort.cell?_putRow (fun (b : UInt8) => Value.int .u8 (b.toNat : Int)) _ w.heap.size 0 _ dk HH0.out (by rw [hF.size, Array.size_replicate]) j (by rw [hF.size]; rw [Lib.decDigits_length] at hj; exact hj))
      rw [Lib.decDigits_length] at h
      exact h
    clear hal
    go_wp2
    go_ret
    exact ⟨rfl, fin_zero w _ dk k⟩

set_option maxRecDepth 100000 in
/-- strconv.FormatUint at base 10: the decimal text. -/
theorem fmtUint (z : Int) (u : Nat) (hz : z = u) (hu : u < 18446744073709551616) (w : World) (htab : Pow10 w) :
    Calls Tryz.prog 180 #[.int .u64 z, .int .i64 10] w fun e w' => e = .returned (.string ⟨(dec u).toArray⟩) ∧ Below w.heap.size w w' := by
  subst hz
  go_enter Tryz.func180, Tryz.ntmps180
  go_wp2_with (go_at_call 198; refine (fmtUintInner u hu _ htab).mono ?_; rintro e w' ⟨rfl, hb⟩)
  go_ret
  exact ⟨rfl, hb⟩
end Go.Proofs.YtnkgbocdpngldaaGreatDoor

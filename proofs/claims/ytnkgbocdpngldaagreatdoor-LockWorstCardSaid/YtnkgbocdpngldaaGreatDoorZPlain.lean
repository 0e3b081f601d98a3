/-
  Decimal texts of natural numbers: plain mathematics, with no program in sight.
  Numbers as lists of digits, the least significant one first: plain mathematics, with no program in sight.
  Long division, digit by digit: what one round of it comes to. Plain mathematics, with no program in sight.
-/
set_option linter.unusedVariables false
set_option linter.unusedSimpArgs false
namespace Go.Proofs.YtnkgbocdpngldaaGreatDoor.Dc

/-- the letter of a digit -/
def dg (k : Nat) : UInt8 := UInt8.ofNat (48 + k)

/-- the decimal text of a number -/
def dec (n : Nat) : List UInt8 := if _h : n < 10 then [dg n] else dec (n / 10) ++ [dg (n % 10)]
termination_by n
decreasing_by omega

theorem dec_lt {n : Nat} (h : n < 10) : dec n = [dg n] := by rw [dec, dif_pos h]
theorem dec_ge {n : Nat} (h : 10 ≤ n) : dec n = dec (n / 10) ++ [dg (n % 10)] := by rw [dec, dif_neg (by omega)]

theorem dec_ne_nil (n : Nat) : dec n ≠ [] := by
  by_cases h : n < 10
  · rw [dec_lt h]; simp
  · rw [dec_ge (by omega)]; simp

theorem dec_length_pos (n : Nat) : 0 < (dec n).length := List.length_pos_iff.2 (dec_ne_nil n)

/-- n has at most k digits if it is less than 10^k -/
theorem dec_length_le {k n : Nat} (hk : 1 ≤ k) (h : n < 10 ^ k) : (dec n).length ≤ k := by
  induction k generalizing n with
  | zero => omega
  | succ k ih =>
    by_cases hn : n < 10
    · rw [dec_lt hn]; simp
    · rw [dec_ge (by omega), List.length_append]
      have hk1 : 1 ≤ k := by
        cases k with
        | zero => simp at h; omega
        | succ k => omega
      have := ih hk1 (n := n / 10) (by rw [Nat.pow_succ] at h; omega)
      simp; omega

theorem dec_length_ge {k n : Nat} (h : 10 ^ k ≤ n) : k + 1 ≤ (dec n).length := by
  induction k generalizing n with
  | zero => exact dec_length_pos n
  | succ k ih =>
    have h10 : 10 ≤ n := by
      have : 10 ^ 1 ≤ 10 ^ (k + 1) := Nat.pow_le_pow_right (by omega) (by omega)
      omega
    rw [dec_ge h10, List.length_append]
    have := ih (n := n / 10) (by rw [Nat.pow_succ] at h; omega)
    simp; omega

/-- the lowest k digits of a number, with zeros ahead -/
def low : Nat → Nat → List UInt8
  | 0, _ => []
  | k + 1, n => low k (n / 10) ++ [dg (n % 10)]

theorem low_length (k n : Nat) : (low k n).length = k := by
  induction k generalizing n with
  | zero => rfl
  | succ k ih => simp [low, ih]

theorem low_zero (k : Nat) : low k 0 = List.replicate k 48 := by
  induction k with
  | zero => rfl
  | succ k ih => simp only [low, Nat.zero_div, ih, Nat.zero_mod]; exact (List.replicate_succ' ..).symm

/-- a number's text in two parts -/
theorem dec_split (k n : Nat) (h : 10 ^ k ≤ n) : dec n = dec (n / 10 ^ k) ++ low k (n % 10 ^ k) := by
  induction k generalizing n with
  | zero => simp [low]
  | succ k ih =>
    have h10 : 10 ≤ n := by
      have : 10 ^ 1 ≤ 10 ^ (k + 1) := Nat.pow_le_pow_right (by omega) (by omega)
      omega
    have hq : 10 ^ k ≤ n / 10 := by rw [Nat.pow_succ] at h; omega
    rw [dec_ge h10, ih _ hq, low, List.append_assoc]
    have e1 : n / 10 / 10 ^ k = n / 10 ^ (k + 1) := by rw [Nat.div_div_eq_div_mul, Nat.pow_succ, Nat.mul_comm]
    have e2 : n % 10 ^ (k + 1) / 10 = n / 10 % 10 ^ k := by
      rw [Nat.pow_succ, Nat.mul_comm, Nat.mod_mul_right_div_self]
    have e3 : n % 10 ^ (k + 1) % 10 = n % 10 := by
      rw [Nat.pow_succ]; exact Nat.mod_mod_of_dvd _ (Nat.dvd_mul_left _ _)
    rw [e1, e2, e3]

/-- the lowest k digits are the text with zeros ahead -/
theorem low_eq (k n : Nat) (hk : 1 ≤ k) (h : n < 10 ^ k) : low k n = List.replicate (k - (dec n).length) 48 ++ dec n := by
  induction k generalizing n with
  | zero => omega
  | succ k ih =>
    by_cases hn : n < 10
    · rw [low, Nat.div_eq_of_lt hn, low_zero, dec_lt hn, Nat.mod_eq_of_lt hn]; simp
    · have hk1 : 1 ≤ k := by
        cases k with
        | zero => simp at h; omega
        | succ k => omega
      have hd : n / 10 < 10 ^ k := by rw [Nat.pow_succ] at h; omega
      rw [low, ih _ hk1 hd, dec_ge (n := n) (by omega), List.append_assoc, List.length_append]
      simp

/-- is it a decimal digit? -/
def isDig (c : UInt8) : Bool := decide (48 ≤ c.toNat) && decide (c.toNat ≤ 57)

/-- the number that decimal digits say -/
def decVal (l : List UInt8) : Nat := l.foldl (fun n c => 10 * n + (c.toNat - 48)) 0

theorem foldl_dec (l : List UInt8) (n : Nat) : l.foldl (fun n c => 10 * n + (c.toNat - 48)) n = n * 10 ^ l.length + decVal l := by
  induction l generalizing n with
  | nil => simp [decVal]
  | cons c l ih =>
    simp only [List.foldl_cons, List.length_cons, decVal]
    rw [ih, ih (10 * 0 + (c.toNat - 48)), Nat.pow_succ]
    grind

theorem decVal_append (l m : List UInt8) : decVal (l ++ m) = decVal l * 10 ^ m.length + decVal m := by
  rw [decVal, List.foldl_append, foldl_dec]; rfl

theorem decVal_snoc (l : List UInt8) (c : UInt8) : decVal (l ++ [c]) = 10 * decVal l + (c.toNat - 48) := by
  rw [decVal_append]; simp [decVal]; omega

theorem decVal_lt (l : List UInt8) (h : l.all isDig = true) : decVal l < 10 ^ l.length := by
  induction l with
  | nil => simp [decVal]
  | cons c l ih =>
    simp only [List.all_cons, Bool.and_eq_true] at h
    have ih := ih h.2
    have hc : c.toNat ≤ 57 := by have := h.1; simp [isDig] at this; exact this.2
    have : c :: l = [c] ++ l := rfl
    rw [this, decVal_append]
    simp only [decVal, List.foldl_cons, List.foldl_nil, List.length_append, List.length_cons, List.length_nil, Nat.pow_add] at *
    have h2 : (10 * 0 + (c.toNat - 48)) * 10 ^ l.length ≤ 9 * 10 ^ l.length := Nat.mul_le_mul_right _ (by omega)
    omega

theorem ofNat_dig {k : Nat} (h : k < 10) : (dg k).toNat = 48 + k := by
  rw [dg, UInt8.toNat_ofNat']; exact Nat.mod_eq_of_lt (by omega)

theorem isDig_ofNat {k : Nat} (h : k < 10) : isDig (dg k) = true := by
  simp only [isDig, ofNat_dig h]; simp; omega

theorem dec_all (n : Nat) : (dec n).all isDig = true := by
  induction n using Nat.strongRecOn with
  | ind n ih =>
    by_cases h : n < 10
    · rw [dec_lt h]; simp [isDig_ofNat h]
    · rw [dec_ge (by omega)]
      simp [ih (n / 10) (by omega), isDig_ofNat (Nat.mod_lt n (by omega))]

theorem decVal_dec (n : Nat) : decVal (dec n) = n := by
  induction n using Nat.strongRecOn with
  | ind n ih =>
    by_cases h : n < 10
    · rw [dec_lt h]; simp [decVal, ofNat_dig h]
    · rw [dec_ge (by omega), decVal_snoc, ih (n / 10) (by omega), ofNat_dig (Nat.mod_lt n (by omega))]; omega

theorem dec_inj {m n : Nat} (h : dec m = dec n) : m = n := by rw [← decVal_dec m, h, decVal_dec]

end Go.Proofs.YtnkgbocdpngldaaGreatDoor.Dc

namespace Go.Proofs.YtnkgbocdpngldaaGreatDoor.Dg

/-- the number that digits say -/
def val (b : Nat) : List Nat → Nat
  | [] => 0
  | d :: l => d + b * val b l

@[simp] theorem val_nil (b : Nat) : val b [] = 0 := rfl
@[simp] theorem val_cons (b d : Nat) (l : List Nat) : val b (d :: l) = d + b * val b l := rfl

theorem val_append (b : Nat) (l m : List Nat) : val b (l ++ m) = val b l + b ^ l.length * val b m := by
  induction l with
  | nil => simp
  | cons d l ih => simp only [List.cons_append, val_cons, ih, List.length_cons, Nat.pow_succ]; grind

theorem val_lt (b : Nat) (l : List Nat) (h : ∀ d ∈ l, d < b) : val b l < b ^ l.length := by
  induction l with
  | nil => simp
  | cons d l ih =>
    have h1 := ih (fun x hx => h x (List.mem_cons_of_mem _ hx))
    have h2 := h d (List.mem_cons_self ..)
    simp only [val_cons, List.length_cons, Nat.pow_succ]
    have : b * (val b l + 1) ≤ b * b ^ l.length := Nat.mul_le_mul_left _ h1
    rw [Nat.mul_comm (b ^ l.length) b]
    rw [Nat.mul_add] at this
    omega

theorem val_snoc (b : Nat) (l : List Nat) (d : Nat) : val b (l ++ [d]) = val b l + b ^ l.length * d := by
  rw [val_append]; simp

theorem val_zeros (b n : Nat) : val b (List.replicate n 0) = 0 := by
  induction n with
  | zero => simp
  | succ n ih => simp [List.replicate_succ, ih]

theorem val_set (b : Nat) : ∀ (l : List Nat) (k d : Nat) (h : k < l.length), val b (l.set k d) + l[k] * b ^ k = val b l + d * b ^ k
  | [], k, d, h => by simp at h
  | x :: l, 0, d, h => by simp; omega
  | x :: l, k + 1, d, h => by
    have hk : k < l.length := by simpa using h
    have ih := val_set b l k d hk
    simp only [List.set_cons_succ, val_cons, List.getElem_cons_succ, Nat.pow_succ]
    have : b * (val b (l.set k d) + l[k] * b ^ k) = b * (val b l + d * b ^ k) := by rw [ih]
    grind

theorem val_take_succ (b : Nat) (l : List Nat) (k : Nat) (h : k < l.length) : val b (l.take (k + 1)) = val b (l.take k) + l[k] * b ^ k := by
  rw [List.take_succ_eq_append_getElem h, val_snoc, List.length_take]
  rw [Nat.min_eq_left (by omega), Nat.mul_comm]

theorem val_split (b : Nat) (l : List Nat) (k : Nat) : val b l = val b (l.take k) + b ^ (min k l.length) * val b (l.drop k) := by
  have := val_append b (l.take k) (l.drop k)
  rw [List.take_append_drop] at this
  rw [this, List.length_take]

/-- digits less than b, without zeros at the end -/
def Can (b : Nat) (l : List Nat) : Prop := (∀ d ∈ l, d < b) ∧ ∀ hne, l.getLast hne ≠ 0

theorem can_nil (b : Nat) : Can b [] := ⟨by simp, by simp⟩

/-- a list without the zeros at its end -/
def lean : List Nat → List Nat
  | [] => []
  | d :: l => match lean l with
    | [] => if d = 0 then [] else [d]
    | e :: m => d :: e :: m

theorem lean_cases (d : Nat) (l : List Nat) : lean (d :: l) = if lean l = [] ∧ d = 0 then [] else d :: lean l := by
  simp only [lean]
  cases h : lean l with
  | nil => by_cases hd : d = 0 <;> simp [hd]
  | cons e m => simp

theorem val_lean (b : Nat) (l : List Nat) : val b (lean l) = val b l := by
  induction l with
  | nil => rfl
  | cons d l ih =>
    rw [lean_cases]
    split
    · rename_i h; simp [← ih, h.1, h.2]
    · simp [ih]

theorem lean_snoc_zero (l : List Nat) : lean (l ++ [0]) = lean l := by
  induction l with
  | nil => simp [lean]
  | cons d l ih => rw [List.cons_append, lean_cases, lean_cases, ih]

theorem lean_snoc (l : List Nat) (d : Nat) (h : d ≠ 0) : lean (l ++ [d]) = l ++ [d] := by
  induction l with
  | nil => simp [lean, h]
  | cons e l ih => rw [List.cons_append, lean_cases, ih]; simp

theorem lean_of_last {l : List Nat} (h : ∀ hne : l ≠ [], l.getLast hne ≠ 0) : lean l = l := by
  by_cases hl : l = []
  · simp [hl, lean]
  · have := List.dropLast_concat_getLast hl
    rw [← this]
    exact lean_snoc _ _ (h hl)

theorem lean_can {b : Nat} {l : List Nat} (h : ∀ d ∈ l, d < b) : Can b (lean l) := by
  induction l with
  | nil => exact can_nil b
  | cons d l ih =>
    have ih := ih (fun x hx => h x (List.mem_cons_of_mem _ hx))
    have hd := h d (List.mem_cons_self ..)
    rw [lean_cases]
    split
    · exact can_nil b
    · rename_i hn
      refine ⟨?_, ?_⟩
      · intro x hx
        rcases List.mem_cons.1 hx with rfl | hx
        · exact hd
        · exact ih.1 x hx
      · intro hne
        by_cases hl : lean l = []
        · simp only [hl, List.getLast_singleton]
          intro h0; exact hn ⟨hl, h0⟩
        · rw [List.getLast_cons hl]; exact ih.2 hl

theorem lean_length_le (l : List Nat) : (lean l).length ≤ l.length := by
  induction l with
  | nil => simp [lean]
  | cons d l ih => rw [lean_cases]; split <;> simp <;> omega

theorem lean_take (l : List Nat) : l.take (lean l).length = lean l := by
  induction l with
  | nil => simp [lean]
  | cons d l ih => rw [lean_cases]; split <;> simp [ih]

/-- the digits of a number -/
def digs (b n : Nat) : List Nat := if _h : n = 0 ∨ b < 2 then [] else n % b :: digs b (n / b)
termination_by n
decreasing_by exact Nat.div_lt_self (by omega) (by omega)

theorem digs_zero (b : Nat) : digs b 0 = [] := by rw [digs]; simp
theorem digs_pos {b n : Nat} (hb : 2 ≤ b) (h : n ≠ 0) : digs b n = n % b :: digs b (n / b) := by
  rw [digs, dif_neg (by omega)]

theorem val_digs {b : Nat} (hb : 2 ≤ b) (n : Nat) : val b (digs b n) = n := by
  induction n using Nat.strongRecOn with
  | ind n ih =>
    by_cases h : n = 0
    · subst h; simp [digs_zero]
    · rw [digs_pos hb h, val_cons, ih _ (Nat.div_lt_self (by omega) hb)]
      exact Nat.mod_add_div n b

theorem digs_eq_nil {b n : Nat} (hb : 2 ≤ b) : digs b n = [] ↔ n = 0 := by
  constructor
  · intro h
    by_cases h0 : n = 0
    · exact h0
    · rw [digs_pos hb h0] at h; cases h
  · rintro rfl; exact digs_zero b

theorem digs_can {b : Nat} (hb : 2 ≤ b) (n : Nat) : Can b (digs b n) := by
  induction n using Nat.strongRecOn with
  | ind n ih =>
    by_cases h : n = 0
    · subst h; rw [digs_zero]; exact can_nil b
    · have ih' := ih _ (Nat.div_lt_self (Nat.pos_of_ne_zero h) hb)
      rw [digs_pos hb h]
      refine ⟨?_, ?_⟩
      · intro d hd
        rcases List.mem_cons.1 hd with rfl | hd
        · exact Nat.mod_lt _ (by omega)
        · exact ih'.1 d hd
      · intro hne
        by_cases hl : digs b (n / b) = []
        · have hlt : n / b = 0 := (digs_eq_nil hb).1 hl
          simp only [hl, List.getLast_singleton]
          have := Nat.mod_add_div n b
          rw [hlt] at this
          omega
        · rw [List.getLast_cons hl]; exact ih'.2 hl

theorem val_pos {b : Nat} {l : List Nat} (h : Can b l) (hne : l ≠ []) : b ^ (l.length - 1) ≤ val b l := by
  have hs := List.dropLast_concat_getLast hne
  rw [← hs, val_snoc]
  simp only [List.length_append, List.length_dropLast, List.length_cons, List.length_nil]
  have h1 := Nat.pos_of_ne_zero (h.2 hne)
  have : b ^ (l.length - 1) * 1 ≤ b ^ (l.length - 1) * l.getLast hne := Nat.mul_le_mul_left _ h1
  have e : l.length - 1 + (0 + 1) - 1 = l.length - 1 := by omega
  rw [e]
  omega

theorem digs_val {b : Nat} (hb : 2 ≤ b) {l : List Nat} (h : Can b l) : digs b (val b l) = l := by
  induction l with
  | nil => simp [digs_zero]
  | cons d l ih =>
    have hc : Can b l := ⟨fun x hx => h.1 x (List.mem_cons_of_mem _ hx), fun hne => by have := h.2 (by simp); rwa [List.getLast_cons hne] at this⟩
    have hd := h.1 d (List.mem_cons_self ..)
    have hne : val b (d :: l) ≠ 0 := by
      have := val_pos h (by simp)
      have h2 : 0 < b ^ ((d :: l).length - 1) := Nat.pow_pos (by omega)
      omega
    rw [digs_pos hb hne, val_cons, Nat.add_mul_mod_self_left, Nat.mod_eq_of_lt hd, Nat.add_mul_div_left _ _ (by omega), Nat.div_eq_of_lt hd, Nat.zero_add, ih hc]

theorem val_inj {b : Nat} (hb : 2 ≤ b) {l m : List Nat} (hl : Can b l) (hm : Can b m) (h : val b l = val b m) : l = m := by
  rw [← digs_val hb hl, ← digs_val hb hm, h]

theorem digs_length_le {b : Nat} (hb : 2 ≤ b) {n k : Nat} (h : n < b ^ k) : (digs b n).length ≤ k := by
  by_cases hn : digs b n = []
  · simp [hn]
  · have := val_pos (digs_can hb n) hn
    rw [val_digs hb] at this
    have h2 : b ^ ((digs b n).length - 1) < b ^ k := Nat.lt_of_le_of_lt this h
    have h3 := (Nat.pow_lt_pow_iff_right (by omega : 1 < b)).1 h2
    have : 0 < (digs b n).length := List.length_pos_iff.2 hn
    omega

theorem lt_pow_digs_length {b : Nat} (hb : 2 ≤ b) (n : Nat) : n < b ^ (digs b n).length := by
  have := val_lt b (digs b n) (digs_can hb n).1
  rwa [val_digs hb] at this

theorem digs_lean {b : Nat} (hb : 2 ≤ b) {l : List Nat} (h : ∀ d ∈ l, d < b) : lean l = digs b (val b l) := by
  have := digs_val hb (lean_can h)
  rw [val_lean] at this
  exact this.symm

/-! comparison -/

theorem val_lt_of_length {b : Nat} (hb : 2 ≤ b) {l m : List Nat} (hl : Can b l) (hm : Can b m) (h : l.length < m.length) : val b l < val b m := by
  have h1 := val_lt b l hl.1
  have h2 := val_pos hm (by intro e; simp [e] at h)
  have h3 : b ^ l.length ≤ b ^ (m.length - 1) := Nat.pow_le_pow_right (by omega) (by omega)
  omega

/-- the first difference from the top decides -/
theorem val_lt_of_top {b : Nat} {l m : List Nat} (hl : ∀ d ∈ l, d < b) (hlen : l.length = m.length) (k : Nat) (hk : k < l.length)
    (hsame : l.drop (k + 1) = m.drop (k + 1)) (hlt : l[k] < m[k]'(by omega)) : val b l < val b m := by
  have e1 := val_split b l (k + 1)
  have e2 := val_split b m (k + 1)
  have hk' : k < m.length := by omega
  rw [val_take_succ b l k hk] at e1
  rw [val_take_succ b m k hk'] at e2
  rw [hsame, Nat.min_eq_left (by omega)] at e1
  rw [Nat.min_eq_left (by omega)] at e2
  have h1 : val b (l.take k) < b ^ k := by
    have := val_lt b (l.take k) (fun d hd => hl d (List.mem_of_mem_take hd))
    rwa [List.length_take, Nat.min_eq_left (by omega)] at this
  have h2 : (l[k] + 1) * b ^ k ≤ m[k] * b ^ k := Nat.mul_le_mul_right _ hlt
  rw [Nat.add_mul] at h2
  omega

end Go.Proofs.YtnkgbocdpngldaaGreatDoor.Dg

namespace Go.Proofs.YtnkgbocdpngldaaGreatDoor.Kn

/-- The guess from the first digits is at most one too great ... -/
theorem guess_low {b P U V top u2 ulow vt v2 vlow q r : Nat} (hU : U = (top * b + u2) * P + ulow) (hV : V = (vt * b + v2) * P + vlow) (hvlow : vlow < P)
    (hqr : q * vt + r = top) (hq : q < b) (hvt : 1 ≤ vt) (hex : q * v2 ≤ r * b + u2) : (q - 1) * V ≤ U := by
  cases q with
  | zero => simp
  | succ q =>
    simp only [Nat.add_sub_cancel]
    have h1 : (q + 1) * (vt * b + v2) ≤ top * b + u2 := by
      have : (q + 1) * (vt * b + v2) = (q + 1) * vt * b + (q + 1) * v2 := by grind
      have h2 : top * b = (q + 1) * vt * b + r * b := by rw [← hqr, Nat.add_mul]
      omega
    have h3 : q ≤ vt * b + v2 := by
      have : 1 * b ≤ vt * b := Nat.mul_le_mul_right _ hvt
      omega
    have h4 : q * (vt * b + v2 + 1) ≤ (q + 1) * (vt * b + v2) := by
      rw [Nat.mul_add, Nat.add_mul]; omega
    have h5 : V ≤ (vt * b + v2 + 1) * P := by rw [hV, Nat.add_mul (vt * b + v2) 1 P]; omega
    calc q * V ≤ q * ((vt * b + v2 + 1) * P) := Nat.mul_le_mul_left _ h5
      _ = q * (vt * b + v2 + 1) * P := by rw [Nat.mul_assoc]
      _ ≤ (q + 1) * (vt * b + v2) * P := Nat.mul_le_mul_right _ h4
      _ ≤ (top * b + u2) * P := Nat.mul_le_mul_right _ h1
      _ ≤ U := by omega

/-- ... and a guess that is taken back was too great. -/
theorem guess_back {b P U V top u2 ulow vt v2 vlow q r : Nat} (hU : U = (top * b + u2) * P + ulow) (hul : ulow < P) (hV : V = (vt * b + v2) * P + vlow)
    (hlt : U < V * b) (hqr : q * vt + r = top) (hb : b ≤ q ∨ r * b + u2 < q * v2) : U < q * V := by
  rcases hb with hb | hb
  · have : b * V ≤ q * V := Nat.mul_le_mul_right _ hb
    rw [Nat.mul_comm b V] at this
    omega
  · have h1 : top * b + u2 + 1 ≤ q * (vt * b + v2) := by
      have : q * (vt * b + v2) = q * vt * b + q * v2 := by grind
      have h2 : top * b = q * vt * b + r * b := by rw [← hqr, Nat.add_mul]
      omega
    have h2 : (top * b + u2 + 1) * P ≤ q * (vt * b + v2) * P := Nat.mul_le_mul_right _ h1
    have h3 : q * (vt * b + v2) * P ≤ q * V := by
      rw [Nat.mul_assoc]; exact Nat.mul_le_mul_left _ (by omega)
    rw [Nat.add_mul (top * b + u2) 1 P] at h2
    omega

/-- The first guess is not too small. -/
theorem guess_first {b P U V top u2 ulow vt v2 vlow : Nat} (hU : U = (top * b + u2) * P + ulow) (hul : ulow < P) (hu2 : u2 < b) (hV : V = (vt * b + v2) * P + vlow)
    (hvt : 1 ≤ vt) : U < (top / vt + 1) * V := by
  have h1 : top + 1 ≤ (top / vt + 1) * vt := by
    have := Nat.div_add_mod top vt
    have h2 := Nat.mod_lt top (show vt > 0 by omega)
    rw [Nat.add_mul, Nat.mul_comm (top / vt) vt]; omega
  have h2 : (top + 1) * (b * P) ≤ (top / vt + 1) * vt * (b * P) := Nat.mul_le_mul_right _ h1
  have h3 : (top / vt + 1) * vt * (b * P) ≤ (top / vt + 1) * V := by
    rw [Nat.mul_assoc]
    refine Nat.mul_le_mul_left _ ?_
    have : vt * (b * P) = vt * b * P := by grind
    rw [hV, Nat.add_mul, this]; omega
  have h4 : U < (top + 1) * (b * P) := by
    have h5 : u2 + 1 ≤ b := hu2
    have h6 : (u2 + 1) * P ≤ b * P := Nat.mul_le_mul_right _ h5
    have e1 : (top + 1) * (b * P) = top * b * P + b * P := by grind
    have e2 : (top * b + u2) * P = top * b * P + u2 * P := by grind
    have e3 : (u2 + 1) * P = u2 * P + P := by grind
    omega
  omega

/-- The end of a round, where the digit was right. 'M' is b^i, 'N' is b^(i+n). -/
theorem round_fits {M N U V low q W t borrow : Nat} (hlow : low < M) (hbal : W + t * N + q * V * M = U * M + low + borrow * N)
    (hhi : U < (q + 1) * V) (ht : borrow ≤ t) : W + (t - borrow) * N + q * V * M = U * M + low ∧ W + (t - borrow) * N < V * M := by
  have e : t * N = (t - borrow) * N + borrow * N := by rw [← Nat.add_mul]; congr 1; omega
  have h1 : W + (t - borrow) * N + q * V * M = U * M + low := by omega
  refine ⟨h1, ?_⟩
  have h2 : (U + 1) * M ≤ (q + 1) * V * M := Nat.mul_le_mul_right _ hhi
  have e2 : (U + 1) * M = U * M + M := by grind
  have e3 : (q + 1) * V * M = q * V * M + V * M := by grind
  omega

/-- The end of a round, where the digit was one too great: what is added back. -/
theorem round_back {b M N U V low q W t borrow W2 carry : Nat} (hW : W < N) (hW2 : W2 < N)  (hVN : V * M ≤ N) (hbb : borrow ≤ b)
    (hbal : W + t * N + q * V * M = U * M + low + borrow * N) (hlo : (q - 1) * V ≤ U) (ht : t < borrow)
    (hadd : W2 + carry * N = W + V * M) : 1 ≤ q ∧ W2 + (q - 1) * V * M = U * M + low ∧ W2 < V * M ∧ t + b - borrow + carry = b := by
  have hq : 1 ≤ q := by
    cases q with
    | zero =>
      have : (t + 1) * N ≤ borrow * N := Nat.mul_le_mul_right _ ht
      rw [Nat.add_mul] at this
      omega
    | succ q => omega
  have e1 : q * V * M = (q - 1) * V * M + V * M := by
    obtain ⟨p, rfl⟩ : ∃ p, q = p + 1 := ⟨q - 1, by omega⟩
    simp only [Nat.add_sub_cancel]; grind
  have h1 : (t + 1) * N ≤ borrow * N := Nat.mul_le_mul_right _ ht
  rw [Nat.add_mul] at h1
  have h2 : (q - 1) * V * M ≤ U * M := Nat.mul_le_mul_right _ hlo
  -- R: the true rest
  obtain ⟨R, hR⟩ : ∃ R, U * M + low = (q - 1) * V * M + R := ⟨U * M + low - (q - 1) * V * M, by omega⟩
  -- t N + W + V M = R + borrow N
  have h3 : W + t * N + V * M = R + borrow * N := by omega
  have h4 : W2 + carry * N + t * N = R + borrow * N := by omega
  have hRlt : R < V * M := by omega
  have hRN : R < N := by omega
  have hN : 0 < N := by omega
  have h5 : W2 + (carry + t) * N = R + borrow * N := by rw [Nat.add_mul]; omega
  have h6 : carry + t = borrow := by
    have a1 : (W2 + (carry + t) * N) / N = carry + t := by rw [Nat.add_mul_div_right _ _ hN, Nat.div_eq_of_lt hW2, Nat.zero_add]
    have a2 : (R + borrow * N) / N = borrow := by rw [Nat.add_mul_div_right _ _ hN, Nat.div_eq_of_lt hRN, Nat.zero_add]
    rw [← a1, h5, a2]
  refine ⟨hq, ?_, ?_, ?_⟩
  · rw [h6] at h5; omega
  · rw [h6] at h5; omega
  · omega

end Go.Proofs.YtnkgbocdpngldaaGreatDoor.Kn

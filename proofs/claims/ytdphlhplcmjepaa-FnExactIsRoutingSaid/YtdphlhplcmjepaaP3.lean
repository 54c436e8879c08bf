/- The plain law of tracks: sets as bits; when tracks are right; no program in sight. -/
import Derived.Test.YtdphlhplcmjepaaEngZA
set_option linter.unusedSimpArgs false
set_option linter.unusedVariables false
namespace Go.Proofs.Ytdphlhplcmjepaa
open Go.Eng

/-! ### Sets as bits -/
/-- The bits of a list of numbers. -/
def bitsOf : List Nat → Nat
  | [] => 0
  | k :: r => 2 ^ k ||| bitsOf r
theorem testBit_bitsOf (j : Nat) : ∀ l : List Nat, (bitsOf l).testBit j = decide (j ∈ l)
  | [] => by simp [bitsOf]
  | k :: r => by
    rw [bitsOf, Nat.testBit_or, testBit_bitsOf j r, Nat.testBit_two_pow]
    by_cases h : k = j
    · subst h; simp
    · have h' : ¬ j = k := fun e => h e.symm
      simp [h, h']
theorem bitsOf_lt {n : Nat} : ∀ {l : List Nat}, (∀ k ∈ l, k < n) → bitsOf l < 2 ^ n
  | [], _ => Nat.two_pow_pos n
  | k :: r, h => by
    rw [bitsOf]
    exact Nat.or_lt_two_pow (Nat.pow_lt_pow_right (by decide) (h k List.mem_cons_self)) (bitsOf_lt (fun k hk => h k (List.mem_cons_of_mem _ hk)))
theorem bitsOf_append (a b : List Nat) : bitsOf (a ++ b) = bitsOf a ||| bitsOf b := by
  apply Nat.eq_of_testBit_eq; intro j
  rw [Nat.testBit_or, testBit_bitsOf, testBit_bitsOf, testBit_bitsOf]
  simp [Bool.decide_or]
theorem bitsOf_snoc (a : List Nat) (k : Nat) : bitsOf (a ++ [k]) = bitsOf a ||| 2 ^ k := by
  rw [bitsOf_append, bitsOf, bitsOf, Nat.or_zero]
theorem bitsOf_zero {l : List Nat} : bitsOf l = 0 ↔ l = [] := by
  constructor
  · intro h
    match l with
    | [] => rfl
    | k :: r =>
      have := testBit_bitsOf k (k :: r)
      rw [h] at this; simp at this
  · intro h; rw [h]; rfl
theorem bitsOf_all {n : Nat} {l : List Nat} (h : ∀ k ∈ l, k < n) : bitsOf l = 2 ^ n - 1 ↔ ∀ k, k < n → k ∈ l := by
  constructor
  · intro e k hk
    have := testBit_bitsOf k l
    rw [e, Nat.testBit_two_pow_sub_one] at this
    simp [hk] at this; exact this
  · intro hall
    apply Nat.eq_of_testBit_eq; intro j
    rw [testBit_bitsOf, Nat.testBit_two_pow_sub_one]
    by_cases hj : j < n
    · simp [hj, hall j hj]
    · have : ¬ j ∈ l := fun hm => hj (h j hm)
      simp [hj, this]
theorem and_zero {a b : Nat} : a &&& b = 0 ↔ ∀ j, a.testBit j = true → ¬ b.testBit j = true := by
  constructor
  · intro h j ha hb
    have := Nat.testBit_and a b j
    rw [h, ha, hb] at this; simp at this
  · intro h
    apply Nat.eq_of_testBit_eq; intro j
    rw [Nat.testBit_and, Nat.zero_testBit]
    by_cases ha : a.testBit j = true
    · have := h j ha
      simp [this]
    · simp [ha]
theorem ofInt_nat {m : Nat} (a : Nat) : BitVec.ofInt m (a : Int) = BitVec.ofNat m a := by
  apply BitVec.eq_of_toNat_eq; simp [BitVec.toNat_ofInt]
theorem bitAnd_nat {a b : Nat} (ha : a < 2 ^ 63) (hb : b < 2 ^ 63) : bitAnd .i64 (a : Int) (b : Int) = ((a &&& b : Nat) : Int) := by
  have h1 : a % 2 ^ 64 = a := Nat.mod_eq_of_lt (by omega)
  have h2 : b % 2 ^ 64 = b := Nat.mod_eq_of_lt (by omega)
  have h3 : a &&& b ≤ a := Nat.and_le_left
  unfold bitAnd
  rw [ofInt_nat, ofInt_nat, BitVec.toNat_and, BitVec.toNat_ofNat, BitVec.toNat_ofNat]
  simp only [IntKind.bits]
  rw [h1, h2]
  exact wrap64 (by omega)
theorem bitOr_nat {a b : Nat} (ha : a < 2 ^ 63) (hb : b < 2 ^ 63) : bitOr .i64 (a : Int) (b : Int) = ((a ||| b : Nat) : Int) := by
  have h1 : a % 2 ^ 64 = a := Nat.mod_eq_of_lt (by omega)
  have h2 : b % 2 ^ 64 = b := Nat.mod_eq_of_lt (by omega)
  have h3 : a ||| b < 2 ^ 63 := Nat.or_lt_two_pow ha hb
  unfold bitOr
  rw [ofInt_nat, ofInt_nat, BitVec.toNat_or, BitVec.toNat_ofNat, BitVec.toNat_ofNat]
  simp only [IntKind.bits]
  rw [h1, h2]
  exact wrap64 (by omega)
theorem bitAndNot_nat {a b : Nat} (ha : a < 2 ^ 63) (hb : b < 2 ^ 63) : bitAndNot .i64 (a : Int) (b : Int) = ((a ^^^ (a &&& b) : Nat) : Int) := by
  have h1 : a % 2 ^ 64 = a := Nat.mod_eq_of_lt (by omega)
  have h3 : a ^^^ (a &&& b) < 2 ^ 63 := Nat.xor_lt_two_pow ha (Nat.lt_of_le_of_lt Nat.and_le_left ha)
  have e : (BitVec.ofNat 64 a &&& ~~~ BitVec.ofNat 64 b).toNat = a ^^^ (a &&& b) := by
    apply Nat.eq_of_testBit_eq; intro j
    rw [BitVec.testBit_toNat, Nat.testBit_xor, Nat.testBit_and]
    simp only [BitVec.getLsbD_and, BitVec.getLsbD_not, BitVec.getLsbD_ofNat]
    by_cases hj : j < 64
    · simp [hj]; cases a.testBit j <;> cases b.testBit j <;> rfl
    · have : a.testBit j = false := Nat.testBit_lt_two_pow (Nat.lt_of_lt_of_le ha (Nat.pow_le_pow_right (by decide) (by omega)))
      simp [hj, this]
  show IntKind.i64.wrap ((BitVec.ofInt 64 (a : Int) &&& ~~~ BitVec.ofInt 64 (b : Int)).toNat : Int) = _
  rw [ofInt_nat, ofInt_nat, e]
  exact wrap64 (by omega)
theorem andNot_zero {a b : Nat} : a ^^^ (a &&& b) = 0 ↔ ∀ j, a.testBit j = true → b.testBit j = true := by
  constructor
  · intro h j ha
    have := Nat.testBit_xor a (a &&& b) j
    rw [h, Nat.testBit_and, ha] at this; simpa using this
  · intro h
    apply Nat.eq_of_testBit_eq; intro j
    rw [Nat.testBit_xor, Nat.testBit_and, Nat.zero_testBit]
    cases ha : a.testBit j
    · simp
    · simp [h j ha]
/-- A bit, looked at. -/
theorem bit_at {a k : Nat} (ha : a < 2 ^ 63) (hk : k < 63) : bitAnd .i64 ((a : Int).fdiv (2 ^ (min ((k : Int).toNat) IntKind.i64.bits))) 1 = if a.testBit k then 1 else 0 := by
  have e1 : min ((k : Int).toNat) IntKind.i64.bits = k := by simp [IntKind.bits]; omega
  rw [e1]
  have e2 : (a : Int).fdiv (2 ^ k) = ((a >>> k : Nat) : Int) := by
    rw [Int.fdiv_eq_ediv_of_nonneg _ (Int.pow_nonneg (by decide)), Nat.shiftRight_eq_div_pow]
    push_cast; rfl
  rw [e2]
  have h1 : a >>> k < 2 ^ 63 := by
    rw [Nat.shiftRight_eq_div_pow]
    exact Nat.lt_of_le_of_lt (Nat.div_le_self _ _) ha
  have := bitAnd_nat (b := 1) h1 (by decide)
  rw [show ((1 : Nat) : Int) = 1 from rfl] at this
  rw [this, Nat.and_one_is_mod, Nat.testBit_eq_decide_div_mod_eq, Nat.shiftRight_eq_div_pow]
  by_cases h : a / 2 ^ k % 2 = 1
  · simp [h]
  · have : a / 2 ^ k % 2 = 0 := by omega
    simp [this]
theorem shl_one {k : Nat} (hk : k < 63) : IntKind.i64.wrap (1 * 2 ^ (min ((k : Int).toNat) IntKind.i64.bits)) = ((2 ^ k : Nat) : Int) := by
  have e1 : min ((k : Int).toNat) IntKind.i64.bits = k := by simp [IntKind.bits]; omega
  rw [e1]
  have h1 : (2 : Nat) ^ k < 2 ^ 63 := Nat.pow_lt_pow_right (by decide) hk
  have e2 : (1 : Int) * 2 ^ k = ((2 ^ k : Nat) : Int) := by rw [Int.one_mul]; push_cast; rfl
  rw [e2]
  generalize 2 ^ k = m at h1 ⊢
  exact wrap64 (by omega)

/-! ### Lists of different things -/
theorem nodup_le {α : Type} [DecidableEq α] : ∀ {l m : List α}, l.Nodup → (∀ x ∈ l, x ∈ m) → l.length ≤ m.length
  | [], m, _, _ => Nat.zero_le _
  | x :: r, m, hn, hs => by
    obtain ⟨h1, h2⟩ := List.nodup_cons.1 hn
    have hx := hs x List.mem_cons_self
    have := nodup_le (l := r) (m := m.erase x) h2 (fun y hy => by
      refine (List.mem_erase_of_ne (fun e => ?_)).2 (hs y (List.mem_cons_of_mem _ hy))
      rw [e] at hy; exact h1 hy)
    have h3 := List.length_erase_of_mem hx
    have h4 := List.length_pos_of_mem hx
    simp; omega
theorem nodup_all {α : Type} [DecidableEq α] {l m : List α} (hl : l.Nodup) (hs : ∀ x ∈ l, x ∈ m) (hm : m.Nodup) : l.length = m.length ↔ ∀ x ∈ m, x ∈ l := by
  constructor
  · intro he x hx
    refine Decidable.byContradiction fun hn => ?_
    have := nodup_le (l := x :: l) (m := m) (List.nodup_cons.2 ⟨hn, hl⟩) (fun y hy => by
      rcases List.mem_cons.1 hy with rfl | h
      · exact hx
      · exact hs y h)
    simp at this; omega
  · intro h
    exact Nat.le_antisymm (nodup_le hl hs) (nodup_le hm h)

/-! ### Tracks that are right -/
abbrev Mz := List (List Int)
/-- Things with names ns; which may not share a track; which must be ahead. -/
structure Good (ns : List Int) (AP AB : Int → Int → Prop) (tr : Mz) : Prop where
  rows : ∀ l ∈ tr, l ≠ [] ∧ l.Pairwise (· < ·) ∧ ∀ x ∈ l, x ∈ ns
  once : tr.flatten.Nodup
  all : ∀ x ∈ ns, x ∈ tr.flatten
  apart : ∀ l ∈ tr, ∀ x ∈ l, ∀ y ∈ l, ¬ AP x y
  above : ∀ t, t < tr.length → ∀ y ∈ tr.getD t [], ∀ x ∈ ns, AB x y → x ∈ (tr.take t).flatten
noncomputable instance (ns : List Int) (AP AB : Int → Int → Prop) (tr : Mz) : Decidable (Good ns AP AB tr) := Classical.propDecidable _
end Go.Proofs.Ytdphlhplcmjepaa

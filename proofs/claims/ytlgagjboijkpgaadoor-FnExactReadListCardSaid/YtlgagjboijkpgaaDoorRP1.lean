/- The plain law of reading decimals; no program in sight. -/
import Derived.Test.YtlgagjboijkpgaaDoorW3
import Derived.Lib.ParseIntBCases
import Derived.Lib.ParseIntBTie
set_option linter.unusedSimpArgs false
set_option linter.unusedVariables false
namespace Go.Proofs.YtlgagjboijkpgaaDoor
open Go.Lib Go.Eng

/-- A digit read behind a number. -/
def dstep (n : Int) (c : UInt8) : Int := if 48 ≤ c.toNat ∧ c.toNat ≤ 57 then 10 * n + ((c.toNat : Int) - 48) else n
def digs (n : Int) (l : List UInt8) : Int := l.foldl dstep n
theorem digs_snoc (n : Int) (l : List UInt8) (c : UInt8) : digs n (l ++ [c]) = dstep (digs n l) c := by simp [digs]
theorem digs_rng : ∀ (l : List UInt8), 0 ≤ digs 0 l ∧ digs 0 l ≤ 10 ^ l.length - 1 := by
  intro l
  have h : ∀ (k : Nat) (l : List UInt8), l.length = k → 0 ≤ digs 0 l ∧ digs 0 l ≤ 10 ^ l.length - 1 := by
    intro k
    induction k with
    | zero => intro l hl; rw [List.length_eq_zero_iff.1 hl]; simp [digs]
    | succ k ih =>
      intro l hl
      have hne : l ≠ [] := fun e => by rw [e] at hl; simp at hl
      have e := List.dropLast_concat_getLast hne
      have hd : l.dropLast.length = k := by simp; omega
      have h1 := ih l.dropLast hd
      rw [← e, digs_snoc, List.length_append, hd]
      rw [hd] at h1
      have h2 : (10 : Int) ^ (k + [l.getLast hne].length) = 10 * 10 ^ k := by
        rw [List.length_singleton, Int.pow_succ]; omega
      rw [h2]
      unfold dstep
      have hp : (1 : Int) ≤ 10 ^ k := by exact_mod_cast Nat.one_le_pow _ _ (by decide)
      split
      · omega
      · omega
  exact h l.length l rfl
theorem digs_11 {l : List UInt8} (h : l.length ≤ 11) : 0 ≤ digs 0 l ∧ digs 0 l ≤ 99999999999 := by
  have h1 := digs_rng l
  have h2 : (10 : Int) ^ l.length ≤ 10 ^ 11 := by exact_mod_cast Nat.pow_le_pow_right (by decide) h
  have h3 : (10 : Int) ^ 11 = 100000000000 := by decide
  omega
theorem dstep_digit (n : Int) (r : Nat) (h : r < 10) : dstep n (UInt8.ofNat (48 + r)) = 10 * n + r := by
  unfold dstep
  rw [UInt8.toNat_ofNat', Nat.mod_eq_of_lt (by omega), if_pos (by omega)]
  omega
theorem digs_dec : ∀ (u : Nat), digs 0 (decDigits u) = u := by
  intro u
  induction u using Nat.strongRecOn with
  | _ u ih =>
    by_cases h : u < 10
    · rw [decDigits_small h]
      show dstep 0 _ = _
      rw [dstep_digit 0 u h]; omega
    · rw [decDigits_big h, digs_snoc, ih (u / 10) (by omega), dstep_digit _ _ (by omega)]
      omega
theorem digs_itoa (n : Int) : digs 0 (itoa n) = n.natAbs := by
  rw [itoa_abs]
  split
  · have e : digs 0 (45 :: decDigits n.natAbs) = digs (dstep 0 45) (decDigits n.natAbs) := rfl
    rw [e, show dstep 0 45 = 0 by decide, digs_dec]
  · exact digs_dec _
theorem decDigits_head (u : Nat) : ∃ (d : Nat) (r : List UInt8), d < 10 ∧ decDigits u = UInt8.ofNat (48 + d) :: r := by
  induction u using Nat.strongRecOn with
  | _ u ih =>
    by_cases h : u < 10
    · exact ⟨u, [], h, decDigits_small h⟩
    · obtain ⟨d, r, h1, h2⟩ := ih (u / 10) (by omega)
      exact ⟨d, r ++ [UInt8.ofNat (48 + u % 10)], h1, by rw [decDigits_big h, h2]; rfl⟩
theorem parseUintM_app (M : Nat) (r : List UInt8) : ∀ (l : List UInt8) (acc u : Nat), parseUintM M acc l = .ok u → parseUintM M acc (l ++ r) = parseUintM M u r
  | [], acc, u, h => by
    simp only [parseUintM] at h
    injection h with h
    subst h; rfl
  | c :: l, acc, u, h => by
    simp only [parseUintM] at h
    simp only [List.cons_append, parseUintM]
    split at h
    · rename_i h1
      rw [if_pos h1]
      split at h
      · cases h
      · rename_i h2
        rw [if_neg h2]
        split at h
        · cases h
        · rename_i h3
          rw [if_neg h3]
          exact parseUintM_app M r l _ u h
    · cases h
theorem parseUintM_one (M acc d : Nat) (hd : d < 10) (h1 : acc < 1844674407370955162) (h2 : acc * 10 + d ≤ M) : parseUintM M acc [UInt8.ofNat (48 + d)] = .ok (acc * 10 + d) := by
  have e : (UInt8.ofNat (48 + d)).toNat = 48 + d := by rw [UInt8.toNat_ofNat', Nat.mod_eq_of_lt (by omega)]
  simp only [parseUintM, e]
  rw [if_pos (by omega), if_neg (by omega), if_neg (by omega)]
  congr 1; omega
theorem parseUintM_digits (u : Nat) : u ≤ 1000000000000 → parseUintM (2 ^ 64 - 1) 0 (decDigits u) = .ok u := by
  induction u using Nat.strongRecOn with
  | _ u ih =>
    intro hu
    by_cases h : u < 10
    · rw [decDigits_small h, parseUintM_one _ 0 u h (by decide) (by omega)]
      congr 1; omega
    · rw [decDigits_big h, parseUintM_app _ _ _ _ _ (ih (u / 10) (by omega) (by omega)), parseUintM_one _ _ _ (by omega) (by omega) (by omega)]
      congr 1; omega
theorem parse_itoa {n : Int} (h : -1000000000 ≤ n ∧ n ≤ 1000000000) : parseIntB 64 (itoa n) = .ok n := by
  have hu : parseUintB 64 (decDigits n.natAbs) = .ok n.natAbs := by
    obtain ⟨d, r, _, e⟩ := decDigits_head n.natAbs
    unfold parseUintB
    rw [if_neg (by rw [e]; simp)]
    exact parseUintM_digits _ (by omega)
  rw [itoa_abs]
  split
  · rw [parseIntB_minus, hu]
    show (if _ then _ else _) = _
    rw [if_neg (by omega)]
    congr 1; omega
  · obtain ⟨d, r, hd, e⟩ := decDigits_head n.natAbs
    have ed : (UInt8.ofNat (48 + d)).toNat = 48 + d := by rw [UInt8.toNat_ofNat', Nat.mod_eq_of_lt (by omega)]
    rw [e, parseIntB_plain 64 _ _ (by omega) (by omega), ← e, hu]
    show (if _ then _ else _) = _
    rw [if_neg (by omega)]
    congr 1; omega
/-- A text that is that number's. -/
def IsDec (s : ByteArray) (n : Int) : Prop := (-1000000000 ≤ n ∧ n ≤ 1000000000) ∧ (⟨(itoa n).toArray⟩ : ByteArray) = s
instance (s : ByteArray) (n : Int) : Decidable (IsDec s n) := by unfold IsDec; exact inferInstance
def dsum (s : ByteArray) : Int := if s.size ≤ 11 then digs 0 s.data.toList else 0
/-- What the reference reads first. -/
def rdN (s : ByteArray) : Int := if 0 < s.size ∧ byteAt s 0 = 45 then -dsum s else dsum s
/-- The number of a text. -/
def rd (s : ByteArray) : Option Int := if IsDec s (rdN s) then some (rdN s) else none
theorem itoa_len11 {n : Int} (h : -1000000000 ≤ n ∧ n ≤ 1000000000) : (itoa n).length ≤ 11 := by
  rw [itoa_abs]
  have := nDigits_le 9 n.natAbs (by omega)
  split
  · simp [decDigits_length]; omega
  · rw [decDigits_length]; omega
theorem IsDec.rdN {s : ByteArray} {n : Int} (h : IsDec s n) : rdN s = n := by
  obtain ⟨hr, rfl⟩ := h
  have hl := itoa_len11 hr
  have hs : (⟨(itoa n).toArray⟩ : ByteArray).size = (itoa n).length := bsz _
  have hd : dsum ⟨(itoa n).toArray⟩ = n.natAbs := by
    unfold dsum
    rw [hs, if_pos hl]
    exact digs_itoa n
  unfold Go.Proofs.YtlgagjboijkpgaaDoor.rdN
  rw [hd, hs]
  by_cases hn : n < 0
  · have e : itoa n = 45 :: decDigits n.natAbs := by rw [itoa_abs, if_pos hn]
    rw [if_pos ⟨by rw [e]; simp, by rw [e]; rfl⟩]
    omega
  · obtain ⟨d, r, hd', e⟩ := decDigits_head n.natAbs
    have e2 : itoa n = UInt8.ofNat (48 + d) :: r := by rw [itoa_abs, if_neg hn, e]
    have ed : (UInt8.ofNat (48 + d)).toNat = 48 + d := by rw [UInt8.toNat_ofNat', Nat.mod_eq_of_lt (by omega)]
    rw [if_neg (fun h => by
      have h2 := h.2
      rw [e2] at h2
      have h3 : ((UInt8.ofNat (48 + d)).toNat : Int) = 45 := h2
      rw [ed] at h3; omega)]
    omega
theorem rd_of {s : ByteArray} {n : Int} (h : IsDec s n) : rd s = some n := by
  unfold rd
  rw [h.rdN, if_pos h]
theorem rd_none {s : ByteArray} (h : ∀ n, ¬ IsDec s n) : rd s = none := by
  unfold rd
  rw [if_neg (h _)]
theorem rd_not {s : ByteArray} {n : Int} (h : parseIntB 64 s.data.toList = .ok n) (h2 : ¬ IsDec s n) : rd s = none := by
  refine rd_none fun m hm => ?_
  have h3 := parse_itoa hm.1
  have h4 : s.data.toList = itoa m := by rw [← hm.2]
  rw [h4, h3] at h
  injection h with h
  subst h
  exact h2 hm
theorem rd_bad {s : ByteArray} (h : ∀ n, parseIntB 64 s.data.toList ≠ .ok n) : rd s = none := by
  refine rd_none fun m hm => ?_
  have h3 := parse_itoa hm.1
  have h4 : s.data.toList = itoa m := by rw [← hm.2]
  exact h m (by rw [h4, h3])
theorem rd_rng {s : ByteArray} {n : Int} (h : rd s = some n) : -1000000000 ≤ n ∧ n ≤ 1000000000 := by
  unfold rd at h
  split at h
  · rename_i h1; cases h; exact h1.1
  · cases h
end Go.Proofs.YtlgagjboijkpgaaDoor

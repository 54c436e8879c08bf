/- The plain law of decimals: the digits drawn one after another; what a text of a number is; no program in sight. -/
import Derived.Test.YtlgagjboijkpgaaDoorEngZA
import Derived.Lib.ItoaNum
import Derived.Lib.ParseIntB
set_option linter.unusedSimpArgs false
set_option linter.unusedVariables false
namespace Go.Proofs.YtlgagjboijkpgaaDoor
open Go.Eng Go.Lib

/-- Bytes as numbers. -/
def bI (bs : List UInt8) : List Int := bs.map fun b => (b.toNat : Int)
theorem bI_len (bs : List UInt8) : (bI bs).length = bs.length := by simp [bI]
theorem bI_snoc (bs : List UInt8) (b : UInt8) : bI (bs ++ [b]) = bI bs ++ [(b.toNat : Int)] := by simp [bI]
theorem bI_back (bs : List UInt8) : (bI bs).map (fun n => UInt8.ofNat n.toNat) = bs := by
  unfold bI
  rw [List.map_map]
  conv => rhs; rw [← List.map_id bs]
  refine List.map_congr_left fun b _ => ?_
  simp
theorem bI_get (bs : List UInt8) (i : Nat) : (bI bs).getD i 0 = ((bs.getD i 0).toNat : Int) := by
  simp only [bI, List.getD, List.getElem?_map]
  cases bs[i]? <;> rfl
theorem bI_set (bs : List UInt8) (i : Nat) (b : UInt8) : (bI bs).set i (b.toNat : Int) = bI (bs.set i b) := by simp [bI, List.map_set]

theorem decDigits_small {u : Nat} (h : u < 10) : decDigits u = [UInt8.ofNat (48 + u)] := by rw [decDigits, dif_pos h]
theorem decDigits_big {u : Nat} (h : ¬ u < 10) : decDigits u = decDigits (u / 10) ++ [UInt8.ofNat (48 + u % 10)] := by
  conv => lhs; rw [decDigits, dif_neg h]
/-- What is drawn, and what is left. -/
def DecInv (u : Nat) (bs : List UInt8) (rest : Nat) : Prop := ((rest ≠ 0 ∨ bs = []) → decDigits u = decDigits rest ++ bs.reverse) ∧ ((rest = 0 ∧ bs ≠ []) → decDigits u = bs.reverse)
theorem DecInv.start (u : Nat) : DecInv u [] u := ⟨fun _ => by simp, fun h => absurd rfl h.2⟩
theorem DecInv.step {u rest : Nat} {bs : List UInt8} (h : DecInv u bs rest) (hc : rest ≠ 0 ∨ bs = []) : DecInv u (bs ++ [UInt8.ofNat (48 + rest % 10)]) (rest / 10) := by
  have h1 := h.1 hc
  by_cases h2 : rest < 10
  · rw [decDigits_small h2] at h1
    have h3 : rest / 10 = 0 := by omega
    have h4 : rest % 10 = rest := by omega
    refine ⟨fun h5 => ?_, fun _ => ?_⟩
    · rcases h5 with h5 | h5
      · exact absurd h3 h5
      · simp at h5
    · rw [h1, h4]; simp
  · rw [decDigits_big h2] at h1
    refine ⟨fun _ => ?_, fun h5 => absurd h5.1 (by omega)⟩
    rw [h1]; simp
theorem DecInv.done {u : Nat} {bs : List UInt8} (h : DecInv u bs 0) (hne : bs ≠ []) : bs.reverse = decDigits u := (h.2 ⟨rfl, hne⟩).symm
theorem DecInv.len {u rest : Nat} {bs : List UInt8} (h : DecInv u bs rest) : bs.length ≤ (decDigits u).length := by
  by_cases hc : rest ≠ 0 ∨ bs = []
  · rw [h.1 hc]; simp
  · have h0 : rest = 0 := Decidable.byContradiction fun hn => hc (.inl hn)
    rw [h.2 ⟨h0, fun e => hc (.inr e)⟩]; simp
theorem nDigits_le : ∀ (k u : Nat), u < 10 ^ (k + 1) → nDigits u ≤ k + 1
  | 0, u, h => by rw [nDigits_small (by simpa using h)]; omega
  | k + 1, u, h => by
    by_cases h1 : u < 10
    · rw [nDigits_small h1]; omega
    · rw [nDigits_big h1]
      have := nDigits_le k (u / 10) (by rw [Nat.pow_succ] at h; omega)
      omega
theorem itoa_len {n : Int} (h : -9223372036854775808 ≤ n ∧ n ≤ 9223372036854775807) : (itoa n).length ≤ 20 := by
  unfold itoa
  split
  · have := nDigits_le 18 n.natAbs (by omega)
    simp [decDigits_length]; omega
  · have := nDigits_le 18 n.toNat (by omega)
    rw [decDigits_length]; omega
theorem itoa_abs (n : Int) : itoa n = if n < 0 then 45 :: decDigits n.natAbs else decDigits n.natAbs := by
  unfold itoa
  split
  · rfl
  · rw [show n.toNat = n.natAbs by omega]

/-- A list turned round from both ends inwards. -/
def revTo (bs : List UInt8) (i : Nat) : List UInt8 := (List.range bs.length).map fun x => if x < i ∨ bs.length - 1 - i < x then bs.getD (bs.length - 1 - x) 0 else bs.getD x 0
theorem revTo_len (bs : List UInt8) (i : Nat) : (revTo bs i).length = bs.length := by simp [revTo]
theorem revTo_get {bs : List UInt8} {i x : Nat} (hx : x < bs.length) : (revTo bs i).getD x 0 = if x < i ∨ bs.length - 1 - i < x then bs.getD (bs.length - 1 - x) 0 else bs.getD x 0 := by
  simp [revTo, List.getD, hx]
theorem revTo_zero (bs : List UInt8) : revTo bs 0 = bs := by
  apply List.ext_getElem (by simp [revTo])
  intro x h1 h2
  have : ¬ (x < 0 ∨ bs.length - 1 - 0 < x) := by omega
  simp only [revTo, List.getElem_map, List.getElem_range, if_neg this]
  simp [List.getD, h2]
theorem revTo_step {bs : List UInt8} {i : Nat} (h : i < bs.length - 1 - i) :
    ((revTo bs i).set i ((revTo bs i).getD (bs.length - 1 - i) 0)).set (bs.length - 1 - i) ((revTo bs i).getD i 0) = revTo bs (i + 1) := by
  apply List.ext_getElem (by simp [revTo])
  intro x h1 h2
  have hx : x < bs.length := by simpa [revTo] using h2
  rw [List.getElem_set, List.getElem_set]
  have e0 : ∀ j, j < bs.length → (revTo bs i)[j]? = some (if j < i ∨ bs.length - 1 - i < j then bs.getD (bs.length - 1 - j) 0 else bs.getD j 0) := fun j hj => by simp [revTo, hj]
  have e1 : (revTo bs i)[x]'(by simpa [revTo] using hx) = if x < i ∨ bs.length - 1 - i < x then bs.getD (bs.length - 1 - x) 0 else bs.getD x 0 := by simp [revTo]
  have e2 : (revTo bs (i + 1))[x] = if x < i + 1 ∨ bs.length - 1 - (i + 1) < x then bs.getD (bs.length - 1 - x) 0 else bs.getD x 0 := by simp [revTo]
  rw [e1, e2, revTo_get (by omega), revTo_get (by omega)]
  by_cases a : bs.length - 1 - i = x
  · rw [if_pos a, if_neg (by omega), if_pos (by omega)]
    congr 1; omega
  · rw [if_neg a]
    by_cases b : i = x
    · rw [if_pos b, if_neg (by omega), if_pos (by omega)]
      congr 1; omega
    · rw [if_neg b]
      by_cases c : x < i ∨ bs.length - 1 - i < x
      · rw [if_pos c, if_pos (by omega)]
      · rw [if_neg c, if_neg (by omega)]
theorem revTo_done {bs : List UInt8} {i : Nat} (h : ¬ i < bs.length - 1 - i) (hi : i ≤ bs.length) : revTo bs i = bs.reverse := by
  apply List.ext_getElem (by simp [revTo])
  intro x h1 h2
  have hx : x < bs.length := by simpa [revTo] using h1
  have e1 : (revTo bs i)[x] = if x < i ∨ bs.length - 1 - i < x then bs.getD (bs.length - 1 - x) 0 else bs.getD x 0 := by simp [revTo]
  rw [e1, List.getElem_reverse]
  have hg : ∀ j (hj : j < bs.length), bs.getD j 0 = bs[j] := fun j hj => by simp [List.getD, hj]
  split
  · rw [hg _ (by omega)]
  · have : x = bs.length - 1 - x := by omega
    rw [hg _ hx]; congr 1
end Go.Proofs.YtlgagjboijkpgaaDoor

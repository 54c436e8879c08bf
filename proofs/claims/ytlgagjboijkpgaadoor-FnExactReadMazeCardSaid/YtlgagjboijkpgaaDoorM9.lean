/- Texts of this seat that the law stands on, put together. No conditions. -/
import Derived.Lib.ItoaNum
import Derived.Lib.ParseIntB
import Derived.Test.YtlgagjboijkpgaaDoorM8
section
set_option linter.unusedSimpArgs false
set_option linter.unusedVariables false
namespace Go.Proofs.YtlgagjboijkpgaaDoor
open Go.Eng Go.Lib
/-- Bytes as numbers. -/
def bI (bs : List UInt8) : List Int := bs.map fun b => (b.toNat : Int)
theorem bI_len (bs : List UInt8) : (bI bs).length = bs.length := by simp [bI]
theorem bI_snoc (bs : List UInt8) (b : UInt8) : bI (bs ++ [b]) = bI bs ++ [(b.toNat : Int)] := by simp [bI]
theorem bI_back (bs : List UInt8) : (bI bs).map (fun n => UInt8.ofNat n.toNat) = bs := by
  unfold bI
  rw [List.map_map]
  conv => rhs; rw [← List.map_id bs]
  refine List.map_congr_left fun b _ => ?_
  simp
theorem decDigits_small {u : Nat} (h : u < 10) : decDigits u = [UInt8.ofNat (48 + u)] := by rw [decDigits, dif_pos h]
theorem decDigits_big {u : Nat} (h : ¬ u < 10) : decDigits u = decDigits (u / 10) ++ [UInt8.ofNat (48 + u % 10)] := by
  conv => lhs; rw [decDigits, dif_neg h]
/-- What is drawn, and what is left. -/
def DecInv (u : Nat) (bs : List UInt8) (rest : Nat) : Prop := ((rest ≠ 0 ∨ bs = []) → decDigits u = decDigits rest ++ bs.reverse) ∧ ((rest = 0 ∧ bs ≠ []) → decDigits u = bs.reverse)
theorem DecInv.step {u rest : Nat} {bs : List UInt8} (h : DecInv u bs rest) (hc : rest ≠ 0 ∨ bs = []) : DecInv u (bs ++ [UInt8.ofNat (48 + rest % 10)]) (rest / 10) := by
  have h1 := h.1 hc
  by_cases h2 : rest < 10
  · rw [decDigits_small h2] at h1
    have h3 : rest / 10 = 0 := by omega
    have h4 : rest % 10 = rest := by omega
    refine ⟨fun h5 => ?_, fun _ => ?_⟩
    · rcases h5 with h5 | h5
      · exact absurd h3 h5
      · simp at h5
    · rw [h1, h4]; simp
  · rw [decDigits_big h2] at h1
    refine ⟨fun _ => ?_, fun h5 => absurd h5.1 (by omega)⟩
    rw [h1]; simp
theorem DecInv.done {u : Nat} {bs : List UInt8} (h : DecInv u bs 0) (hne : bs ≠ []) : bs.reverse = decDigits u := (h.2 ⟨rfl, hne⟩).symm
theorem DecInv.len {u rest : Nat} {bs : List UInt8} (h : DecInv u bs rest) : bs.length ≤ (decDigits u).length := by
  by_cases hc : rest ≠ 0 ∨ bs = []
  · rw [h.1 hc]; simp
  · have h0 : rest = 0 := Decidable.byContradiction fun hn => hc (.inl hn)
    rw [h.2 ⟨h0, fun e => hc (.inr e)⟩]; simp
theorem nDigits_le : ∀ (k u : Nat), u < 10 ^ (k + 1) → nDigits u ≤ k + 1
  | 0, u, h => by rw [nDigits_small (by simpa using h)]; omega
  | k + 1, u, h => by
    by_cases h1 : u < 10
    · rw [nDigits_small h1]; omega
    · rw [nDigits_big h1]
      have := nDigits_le k (u / 10) (by rw [Nat.pow_succ] at h; omega)
      omega
theorem itoa_abs (n : Int) : itoa n = if n < 0 then 45 :: decDigits n.natAbs else decDigits n.natAbs := by
  unfold itoa
  split
  · rfl
  · rw [show n.toNat = n.natAbs by omega]
end Go.Proofs.YtlgagjboijkpgaaDoor
end
section
set_option linter.unusedSimpArgs false
set_option linter.unusedVariables false
set_option maxHeartbeats 1000000
namespace Go.Proofs.YtlgagjboijkpgaaDoor
open Go.Eng Go.Lib
theorem wrap8 {z : Int} (h : 0 ≤ z ∧ z ≤ 255) : IntKind.u8.wrap z = z := by
  simp [IntKind.wrap, IntKind.min, IntKind.max, IntKind.signed, IntKind.bits]; omega
theorem bytes_back (bs : List UInt8) : (List.map (fun n : Int => UInt8.ofNat n.toNat) (bI bs)) = bs := bI_back bs
theorem bI_rng (bs : List UInt8) : ∀ n ∈ bI bs, 0 ≤ n ∧ n < 256 := fun n hn => by
  obtain ⟨b, _, rfl⟩ := List.mem_map.1 hn
  have := b.toNat_lt
  omega
end Go.Proofs.YtlgagjboijkpgaaDoor
end

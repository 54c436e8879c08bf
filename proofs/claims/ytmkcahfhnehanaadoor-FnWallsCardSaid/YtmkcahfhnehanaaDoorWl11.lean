/- Texts of this seat that the law stands on, put together. No conditions. -/
import Derived.Lib.ItoaNum
import Derived.Lib.ParseIntB
import Derived.Test.YtmkcahfhnehanaaDoorWl10
section
set_option linter.unusedSimpArgs false
set_option linter.unusedVariables false
namespace Go.Proofs.YtmkcahfhnehanaaDoor
open Go.Eng Go.Lib
theorem decDigits_small {u : Nat} (h : u < 10) : decDigits u = [UInt8.ofNat (48 + u)] := by rw [decDigits, dif_pos h]
theorem decDigits_big {u : Nat} (h : ¬ u < 10) : decDigits u = decDigits (u / 10) ++ [UInt8.ofNat (48 + u % 10)] := by
  conv => lhs; rw [decDigits, dif_neg h]
/-- What is drawn, and what is left. -/
def DecInv (u : Nat) (bs : List UInt8) (rest : Nat) : Prop := ((rest ≠ 0 ∨ bs = []) → decDigits u = decDigits rest ++ bs.reverse) ∧ ((rest = 0 ∧ bs ≠ []) → decDigits u = bs.reverse)
theorem DecInv.start (u : Nat) : DecInv u [] u := ⟨fun _ => by simp, fun h => absurd rfl h.2⟩
theorem DecInv.step {u rest : Nat} {bs : List UInt8} (h : DecInv u bs rest) (hc : rest ≠ 0 ∨ bs = []) : DecInv u (bs ++ [UInt8.ofNat (48 + rest % 10)]) (rest / 10) := by
  have h1 := h.1 hc
  by_cases h2 : rest < 10
  · rw [decDigits_small h2] at h1
    have h3 : rest / 10 = 0 := by omega
    have h4 : rest % 10 = rest := by omega
    refine ⟨fun h5 => ?_, fun _ => ?_⟩
    · rcases h5 with h5 | h5
      · exact absurd h3 h5
      · simp at h5
    · rw [h1, h4]; simp
  · rw [decDigits_big h2] at h1
    refine ⟨fun _ => ?_, fun h5 => absurd h5.1 (by omega)⟩
    rw [h1]; simp
theorem DecInv.done {u : Nat} {bs : List UInt8} (h : DecInv u bs 0) (hne : bs ≠ []) : bs.reverse = decDigits u := (h.2 ⟨rfl, hne⟩).symm
theorem DecInv.len {u rest : Nat} {bs : List UInt8} (h : DecInv u bs rest) : bs.length ≤ (decDigits u).length := by
  by_cases hc : rest ≠ 0 ∨ bs = []
  · rw [h.1 hc]; simp
  · have h0 : rest = 0 := Decidable.byContradiction fun hn => hc (.inl hn)
    rw [h.2 ⟨h0, fun e => hc (.inr e)⟩]; simp
theorem nDigits_le : ∀ (k u : Nat), u < 10 ^ (k + 1) → nDigits u ≤ k + 1
  | 0, u, h => by rw [nDigits_small (by simpa using h)]; omega
  | k + 1, u, h => by
    by_cases h1 : u < 10
    · rw [nDigits_small h1]; omega
    · rw [nDigits_big h1]
      have := nDigits_le k (u / 10) (by rw [Nat.pow_succ] at h; omega)
      omega
theorem itoa_len {n : Int} (h : -9223372036854775808 ≤ n ∧ n ≤ 9223372036854775807) : (itoa n).length ≤ 20 := by
  unfold itoa
  split
  · have := nDigits_le 18 n.natAbs (by omega)
    simp [decDigits_length]; omega
  · have := nDigits_le 18 n.toNat (by omega)
    rw [decDigits_length]; omega
theorem itoa_abs (n : Int) : itoa n = if n < 0 then 45 :: decDigits n.natAbs else decDigits n.natAbs := by
  unfold itoa
  split
  · rfl
  · rw [show n.toNat = n.natAbs by omega]
end Go.Proofs.YtmkcahfhnehanaaDoor
end
section
set_option linter.unusedSimpArgs false
set_option linter.unusedVariables false
set_option maxHeartbeats 1000000
namespace Go.Proofs.YtmkcahfhnehanaaDoor
open Go.Eng Go.Lib
theorem wrap8 {z : Int} (h : 0 ≤ z ∧ z ≤ 255) : IntKind.u8.wrap z = z := by
  simp [IntKind.wrap, IntKind.min, IntKind.max, IntKind.signed, IntKind.bits]; omega
end Go.Proofs.YtmkcahfhnehanaaDoor
end

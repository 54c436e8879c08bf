/- The plain law of orders as bits. -/
import Derived.Test.YtdphlhplcmjepaaP5
set_option linter.unusedSimpArgs false
set_option linter.unusedVariables false
namespace Go.Proofs.Ytdphlhplcmjepaa
open Go.Eng

noncomputable def mkB (S : Nat → Nat → Prop) (n p : Nat) : Nat := bitsOf ((List.range n).filter fun j => @decide (S p j) (Classical.propDecidable _))
/-- Rows of bits. -/
noncomputable def mk (S : Nat → Nat → Prop) (n : Nat) : List Int := (List.range n).map fun p => (mkB S n p : Int)
theorem mkB_bit (S : Nat → Nat → Prop) (n p j : Nat) : (mkB S n p).testBit j = true ↔ j < n ∧ S p j := by
  unfold mkB
  rw [testBit_bitsOf, decide_eq_true_eq, List.mem_filter, List.mem_range]
  simp
theorem mkB_lt (S : Nat → Nat → Prop) (n p : Nat) : mkB S n p < 2 ^ n := bitsOf_lt fun k hk => List.mem_range.1 (List.mem_filter.1 hk).1
theorem mk_len (S : Nat → Nat → Prop) (n : Nat) : (mk S n).length = n := by simp [mk]
theorem mk_get (S : Nat → Nat → Prop) {n p : Nat} (h : p < n) : (mk S n).getD p 0 = (mkB S n p : Int) := by
  simp [mk, List.getD, h]
theorem mkB_same {S S' : Nat → Nat → Prop} {n p : Nat} (h : ∀ j, j < n → (S p j ↔ S' p j)) : mkB S n p = mkB S' n p := by
  apply Nat.eq_of_testBit_eq; intro j
  have h1 := mkB_bit S n p j
  have h2 := mkB_bit S' n p j
  by_cases hj : j < n
  · have h3 := h j hj
    rw [Bool.eq_iff_iff, h1, h2, h3]
  · rw [Bool.eq_iff_iff, h1, h2]
    exact ⟨fun h => absurd h.1 hj, fun h => absurd h.1 hj⟩
theorem mk_same {S S' : Nat → Nat → Prop} {n : Nat} (h : ∀ p, p < n → ∀ j, j < n → (S p j ↔ S' p j)) : mk S n = mk S' n := by
  unfold mk
  refine List.map_congr_left fun p hp => ?_
  rw [mkB_same (h p (List.mem_range.1 hp))]
theorem mk_zero {S : Nat → Nat → Prop} {n : Nat} (h : ∀ p, p < n → ∀ j, j < n → ¬ S p j) : mk S n = List.replicate n 0 := by
  apply List.ext_getElem (by simp [mk])
  intro i h1 h2
  have hi : i < n := by simpa [mk] using h1
  have : mkB S n i = 0 := by
    unfold mkB
    rw [bitsOf_zero, List.filter_eq_nil_iff]
    intro j hj
    simpa using h i hi j (List.mem_range.1 hj)
  simp [mk, this]
theorem mk_set {S S' : Nat → Nat → Prop} {n p k : Nat} (hn : n ≤ 60) (hp : p < n) (hk : k < n) (h1 : S' p k) (h : ∀ q, q < n → ∀ j, j < n → ¬ (q = p ∧ j = k) → (S q j ↔ S' q j)) :
    (mk S n).set p (bitOr .i64 ((mk S n).getD p 0) ((2 ^ k : Nat) : Int)) = mk S' n := by
  have hb : ∀ q, mkB S n q < 2 ^ 63 := fun q => Nat.lt_of_lt_of_le (mkB_lt S n q) (Nat.pow_le_pow_right (by decide) (by omega))
  have hk2 : 2 ^ k < 2 ^ 63 := Nat.pow_lt_pow_right (by decide) (by omega)
  rw [mk_get S hp, bitOr_nat (hb p) hk2]
  apply List.ext_getElem (by simp [mk])
  intro q h2 h3
  have hq : q < n := by simpa [mk] using h3
  rw [List.getElem_set]
  have e1 : (mk S n)[q]'(by rw [mk_len]; exact hq) = (mkB S n q : Int) := by simp [mk]
  have e2 : (mk S' n)[q] = (mkB S' n q : Int) := by simp [mk]
  rw [e1, e2]
  split
  · rename_i e
    subst e
    congr 1
    apply Nat.eq_of_testBit_eq; intro j
    rw [Bool.eq_iff_iff, Nat.testBit_or, Nat.testBit_two_pow, Bool.or_eq_true, decide_eq_true_eq, mkB_bit, mkB_bit]
    constructor
    · rintro (⟨h4, h5⟩ | h4)
      · by_cases e : j = k
        · rw [e]; exact ⟨hk, h1⟩
        · exact ⟨h4, (h p hp j h4 (fun h6 => e h6.2)).1 h5⟩
      · rw [← h4]; exact ⟨hk, h1⟩
    · rintro ⟨h4, h5⟩
      by_cases e : j = k
      · exact .inr e.symm
      · exact .inl ⟨h4, (h p hp j h4 (fun h6 => e h6.2)).2 h5⟩
  · rename_i e
    congr 1
    exact mkB_same fun j hj => h q hq j hj (fun h4 => e h4.1.symm)
theorem mk_rel {S : Nat → Nat → Prop} {ns : List Int} {R : Int → Int → Prop} (h : ∀ p, p < ns.length → ∀ j, j < ns.length → (S p j ↔ R (ns.getD p 0) (ns.getD j 0))) : Rel ns R (mk S ns.length) :=
  ⟨mk_len S _, fun k hk => ⟨mkB S ns.length k, mk_get S hk, mkB_lt S _ k, fun j => by
    rw [mkB_bit]
    exact ⟨fun ⟨h1, h2⟩ => ⟨h1, (h k hk j h1).1 h2⟩, fun ⟨h1, h2⟩ => ⟨h1, (h k hk j h1).2 h2⟩⟩⟩⟩
/-- Up to the pair (i, k). -/
def UpTo (i k p j : Nat) : Prop := p < i ∨ (p = i ∧ j < k)
end Go.Proofs.Ytdphlhplcmjepaa

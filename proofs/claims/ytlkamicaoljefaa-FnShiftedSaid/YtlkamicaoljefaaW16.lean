/- The plain law of shifts: the range of shifts, the fewest tracks. -/
import Derived.Test.YtlkamicaoljefaaW15
set_option linter.unusedSimpArgs false
set_option linter.unusedVariables false
set_option maxHeartbeats 1000000
namespace Go.Proofs.Ytlkamicaoljefaa
open Go.Eng

/-- Both differences at a place are great enough. -/
def FitAt (xs ys : List Int) (t : Nat) (s : Int) (j : Nat) : Prop := ¬ ys.getD (j + t) 0 - xs.getD j 0 - s < t ∧ ¬ xs.getD (j + t) 0 + s - ys.getD j 0 < t
theorem tightFrom_iff (xs ys : List Int) (t : Nat) (s : Int) : ∀ f i, (tightFrom xs ys t s f i).1 < 0 ↔ ∀ j, i ≤ j → j < i + f → FitAt xs ys t s j
  | 0, i => ⟨fun _ j h1 h2 => by omega, fun _ => by simp [tightFrom]⟩
  | f + 1, i => by
    have ih := tightFrom_iff xs ys t s f (i + 1)
    unfold tightFrom
    split
    · rename_i h
      refine ⟨fun hh => ?_, fun hh => absurd h (hh i (Nat.le_refl _) (by omega)).1⟩
      simp only at hh; omega
    · rename_i h
      split
      · rename_i h'
        refine ⟨fun hh => ?_, fun hh => absurd h' (hh i (Nat.le_refl _) (by omega)).2⟩
        simp only at hh; omega
      · rename_i h'
        rw [ih]
        refine ⟨fun hh j h1 h2 => ?_, fun hh j h1 h2 => hh j (by omega) (by omega)⟩
        by_cases e : j = i
        · subst e; exact ⟨h, h'⟩
        · exact hh j (by omega) (by omega)
theorem tightF_iff {xs ys : List Int} {t : Nat} {s : Int} : (tightF xs ys t s).1 < 0 ↔ ∀ j, j + t < xs.length → FitAt xs ys t s j := by
  unfold tightF
  rw [tightFrom_iff]
  exact ⟨fun h j hj => h j (Nat.zero_le _) (by omega), fun h j _ hj => h j (by omega)⟩
theorem rangeAt_iff {xs ys : List Int} {t : Nat} {s : Int} (hs : -200 ≤ s ∧ s ≤ 200) : ∀ i, ((rangeAt xs ys t i).1 ≤ s ∧ s ≤ (rangeAt xs ys t i).2) ↔ ∀ j, j < i → FitAt xs ys t s j
  | 0 => ⟨fun _ j h => by omega, fun _ => by simp only [rangeAt]; exact hs⟩
  | i + 1 => by
    have ih := rangeAt_iff (xs := xs) (ys := ys) (t := t) hs i
    simp only [rangeAt]
    constructor
    · intro h j hj
      have h1 := ih.1 ⟨by omega, by omega⟩
      by_cases e : j = i
      · subst e; unfold FitAt; omega
      · exact h1 j (by omega)
    · intro h
      have h1 := ih.2 (fun j hj => h j (by omega))
      have h2 := h i (by omega)
      unfold FitAt at h2
      omega
theorem rangeF_iff {xs ys : List Int} {t : Nat} {s : Int} (hs : -200 ≤ s ∧ s ≤ 200) : ((rangeF xs ys t).1 ≤ s ∧ s ≤ (rangeF xs ys t).2) ↔ ∀ j, j + t < xs.length → FitAt xs ys t s j := by
  unfold rangeF
  rw [rangeAt_iff hs]
  exact ⟨fun h j hj => h j (by omega), fun h j hj => h j (by omega)⟩
theorem rangeF_bnd (xs ys : List Int) (t : Nat) : -200 ≤ (rangeF xs ys t).1 ∧ (rangeF xs ys t).2 ≤ 200 := by
  have : ∀ i, -200 ≤ (rangeAt xs ys t i).1 ∧ (rangeAt xs ys t i).2 ≤ 200 := fun i => by
    induction i with
    | zero => simp [rangeAt]
    | succ i ih => simp only [rangeAt]; omega
  exact this _
theorem rangeAt_mono (xs ys : List Int) (t : Nat) {i j : Nat} (h : i ≤ j) : (rangeAt xs ys t i).1 ≤ (rangeAt xs ys t j).1 ∧ (rangeAt xs ys t j).2 ≤ (rangeAt xs ys t i).2 := by
  induction j with
  | zero => obtain rfl : i = 0 := by omega
            omega
  | succ j ih =>
    by_cases e : i = j + 1
    · subst e; omega
    · have := ih (by omega)
      simp only [rangeAt]; omega
theorem rangeAt_step {xs ys : List Int} (hr : RiverOk xs ys) (t : Nat) : ∀ i, i + t + 1 ≤ xs.length → (rangeAt xs ys (t + 1) i).1 ≤ (rangeAt xs ys t i).1 ∧ (rangeAt xs ys t i).2 ≤ (rangeAt xs ys (t + 1) i).2
  | 0, _ => by simp [rangeAt]
  | i + 1, h => by
    have ih := rangeAt_step hr t i (by omega)
    have e1 := (hr.2.2.1 (i + t + 1) (by omega)).2 (by omega)
    have e2 := (hr.2.2.2 (i + t + 1) (by have := hr.2.1; omega)).2 (by omega)
    rw [show i + t + 1 - 1 = i + t by omega] at e1 e2
    simp only [rangeAt, show i + (t + 1) = i + t + 1 by omega]
    push_cast
    omega
theorem rangeF_step {xs ys : List Int} (hr : RiverOk xs ys) (t : Nat) (h : (rangeF xs ys t).1 ≤ (rangeF xs ys t).2) : (rangeF xs ys (t + 1)).1 ≤ (rangeF xs ys (t + 1)).2 := by
  by_cases ht : t + 1 ≤ xs.length
  · have h1 := rangeAt_mono xs ys t (i := xs.length - (t + 1)) (j := xs.length - t) (by omega)
    have h2 := rangeAt_step hr t (xs.length - (t + 1)) (by omega)
    unfold rangeF at h ⊢
    omega
  · exact range_wide (by omega)
theorem rangeF_up {xs ys : List Int} (hr : RiverOk xs ys) {t : Nat} (h : (rangeF xs ys t).1 ≤ (rangeF xs ys t).2) : ∀ d, (rangeF xs ys (t + d)).1 ≤ (rangeF xs ys (t + d)).2
  | 0 => h
  | d + 1 => rangeF_step hr (t + d) (rangeF_up hr h d)
theorem bestFrom_spec (xs ys : List Int) : ∀ f t, f + t = xs.length → ((rangeF xs ys (bestFrom xs ys f t)).1 ≤ (rangeF xs ys (bestFrom xs ys f t)).2 ∧ bestFrom xs ys f t ≤ xs.length ∧ ∀ u, t ≤ u → u < bestFrom xs ys f t → ¬ (rangeF xs ys u).1 ≤ (rangeF xs ys u).2)
  | 0, t, h => ⟨range_wide (by simp only [bestFrom]; omega), by simp only [bestFrom]; omega, fun u h1 h2 => by simp only [bestFrom] at h2; omega⟩
  | f + 1, t, h => by
    unfold bestFrom
    split
    · rename_i hc
      exact ⟨hc, by omega, fun u h1 h2 => by omega⟩
    · rename_i hc
      obtain ⟨h1, h2, h3⟩ := bestFrom_spec xs ys f (t + 1) (by omega)
      refine ⟨h1, h2, fun u g1 g2 => ?_⟩
      by_cases e : u = t
      · subst e; exact hc
      · exact h3 u (by omega) g2
theorem bestF_spec (xs ys : List Int) : (rangeF xs ys (bestF xs ys)).1 ≤ (rangeF xs ys (bestF xs ys)).2 ∧ bestF xs ys ≤ xs.length ∧ ∀ u, u < bestF xs ys → ¬ (rangeF xs ys u).1 ≤ (rangeF xs ys u).2 := by
  have := bestFrom_spec xs ys xs.length 0 (by omega)
  exact ⟨this.1, this.2.1, fun u hu => this.2.2 u (Nat.zero_le _) hu⟩
theorem best_iff {xs ys : List Int} (hr : RiverOk xs ys) (t : Nat) : (rangeF xs ys t).1 ≤ (rangeF xs ys t).2 ↔ bestF xs ys ≤ t := by
  obtain ⟨h1, h2, h3⟩ := bestF_spec xs ys
  constructor
  · intro h
    rcases Nat.lt_or_ge t (bestF xs ys) with g | g
    · exact absurd h (h3 t g)
    · exact g
  · intro h
    have := rangeF_up hr h1 (t - bestF xs ys)
    rwa [show bestF xs ys + (t - bestF xs ys) = t by omega] at this
theorem leastFrom_spec (xs ys : List Int) : ∀ f t, f + t = xs.length → (tightF xs ys (leastFrom xs ys f t) 0).1 < 0
  | 0, t, h => tight_wide (by simp only [leastFrom]; omega) 0
  | f + 1, t, h => by
    unfold leastFrom
    split
    · assumption
    · exact leastFrom_spec xs ys f (t + 1) (by omega)
theorem best_le_least {xs ys : List Int} (hr : RiverOk xs ys) : bestF xs ys ≤ leastF xs ys := by
  have h := leastFrom_spec xs ys xs.length 0 (by omega)
  have h1 : (rangeF xs ys (leastF xs ys)).1 ≤ 0 ∧ 0 ≤ (rangeF xs ys (leastF xs ys)).2 := (rangeF_iff (by omega)).2 (tightF_iff.1 h)
  exact (best_iff hr _).1 (by omega)
end Go.Proofs.Ytlkamicaoljefaa

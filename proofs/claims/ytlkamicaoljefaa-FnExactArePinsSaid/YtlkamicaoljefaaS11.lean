/- The sorted set of points (impl.sorted). -/
import Derived.Test.YtlkamicaoljefaaS10
import Derived.Test.YtlkamicaoljefaaEngX
set_option linter.unusedSimpArgs false
set_option linter.unusedVariables false
set_option maxHeartbeats 1000000
namespace Go.Proofs.Ytlkamicaoljefaa
open Go.Eng

/-- Ascending, each once. -/
def Asc (ys : List (Int × Int)) : Prop := ys.Pairwise ltP
theorem ltP_tri (a b : Int × Int) : ltP a b ∨ a = b ∨ ltP b a := by
  unfold ltP
  by_cases h1 : a.1 < b.1
  · exact .inl (.inl h1)
  · by_cases h2 : b.1 < a.1
    · exact .inr (.inr (.inl h2))
    · by_cases h3 : a.2 < b.2
      · exact .inl (.inr ⟨by omega, h3⟩)
      · by_cases h4 : b.2 < a.2
        · exact .inr (.inr (.inr ⟨by omega, h4⟩))
        · exact .inr (.inl (Prod.ext (by omega) (by omega)))
theorem ltP_trans {a b c : Int × Int} (h : ltP a b) (k : ltP b c) : ltP a c := by unfold ltP at *; omega
theorem ltP_irr (a : Int × Int) : ¬ ltP a a := by unfold ltP; omega
theorem asc_unique : ∀ {xs ys : List (Int × Int)}, Asc xs → Asc ys → (∀ p, p ∈ xs ↔ p ∈ ys) → xs = ys
  | [], [], _, _, _ => rfl
  | [], y :: ys, _, _, h => absurd ((h y).2 (by simp)) (by simp)
  | x :: xs, [], _, _, h => absurd ((h x).1 (by simp)) (by simp)
  | x :: xs, y :: ys, hx, hy, h => by
    have hx' := List.pairwise_cons.1 hx
    have hy' := List.pairwise_cons.1 hy
    have e : x = y := by
      rcases ltP_tri x y with h1 | h1 | h1
      · have := (h x).1 (by simp)
        rcases List.mem_cons.1 this with h2 | h2
        · exact h2
        · exact absurd (ltP_trans h1 (hy'.1 x h2)) (ltP_irr x)
      · exact h1
      · have := (h y).2 (by simp)
        rcases List.mem_cons.1 this with h2 | h2
        · exact h2.symm
        · exact absurd (ltP_trans h1 (hx'.1 y h2)) (ltP_irr y)
    subst e
    have : xs = ys := asc_unique hx'.2 hy'.2 (fun p => by
      constructor
      · intro hp
        rcases List.mem_cons.1 ((h p).1 (by simp [hp])) with h2 | h2
        · subst h2; exact absurd (hx'.1 p hp) (ltP_irr p)
        · exact h2
      · intro hp
        rcases List.mem_cons.1 ((h p).2 (by simp [hp])) with h2 | h2
        · subst h2; exact absurd (hy'.1 p hp) (ltP_irr p)
        · exact h2)
    rw [this]
theorem compTo_mem (zs : List (Int × Int)) : ∀ i, i ≤ zs.length → ∀ p, p ∈ compTo zs i ↔ p ∈ zs.take i
  | 0, _, p => by simp [compTo]
  | i + 1, h, p => by
    rw [take_snoc (by omega)]
    have ih := compTo_mem zs i (by omega) p
    by_cases e : 0 < i ∧ zs.getD i (0, 0) = zs.getD (i - 1) (0, 0)
    · rw [compTo_eq e, ih]
      simp only [List.mem_append, List.mem_singleton]
      refine ⟨.inl, fun h' => ?_⟩
      rcases h' with h' | h'
      · exact h'
      · rw [h', e.2]
        rw [show zs.take i = zs.take (i - 1) ++ [zs.getD (i - 1) (0, 0)] by rw [← take_snoc (by omega), Nat.sub_add_cancel e.1]]
        simp
    · show p ∈ (if _ then _ else _) ↔ _
      rw [if_neg e]
      simp only [List.mem_append, ih]
/-- Of a sorted list: ascending, and the last is the last taken. -/
theorem compTo_asc {zs : List (Int × Int)} (hs : zs.Pairwise (fun a b => ¬ ltP b a)) : ∀ i, i ≤ zs.length → Asc (compTo zs i) ∧ ∀ p ∈ compTo zs i, ¬ ltP (zs.getD (i - 1) (0, 0)) p
  | 0, _ => ⟨List.Pairwise.nil, fun p hp => by simp [compTo] at hp⟩
  | i + 1, h => by
    obtain ⟨h1, h2⟩ := compTo_asc hs i (by omega)
    have hle : ∀ a b, a < b → b < zs.length → ¬ ltP (zs.getD b (0, 0)) (zs.getD a (0, 0)) := fun a b hab hb => by
      have := (List.pairwise_iff_getElem.1 hs) a b (by omega) hb hab
      simpa [List.getD, hb, show a < zs.length by omega] using this
    by_cases e : 0 < i ∧ zs.getD i (0, 0) = zs.getD (i - 1) (0, 0)
    · rw [compTo_eq e, show i + 1 - 1 = i from rfl, e.2]
      exact ⟨h1, h2⟩
    · have e' : compTo zs (i + 1) = compTo zs i ++ [zs.getD i (0, 0)] := by
        show (if _ then _ else _) = _
        rw [if_neg e]
      rw [e', show i + 1 - 1 = i from rfl]
      rcases Nat.eq_zero_or_pos i with rfl | hi
      · refine ⟨by simp [compTo, Asc], fun p hp => ?_⟩
        simp [compTo] at hp; subst hp; exact ltP_irr _
      · have hne : ¬ zs.getD i (0, 0) = zs.getD (i - 1) (0, 0) := fun h' => e ⟨hi, h'⟩
        have hlt : ltP (zs.getD (i - 1) (0, 0)) (zs.getD i (0, 0)) := by
          rcases ltP_tri (zs.getD (i - 1) (0, 0)) (zs.getD i (0, 0)) with h' | h' | h'
          · exact h'
          · exact absurd h'.symm hne
          · exact absurd h' (hle _ _ (by omega) (by omega))
        have hlast : ∀ p ∈ compTo zs i, ltP p (zs.getD i (0, 0)) := fun p hp => by
          have := h2 p hp
          rcases ltP_tri p (zs.getD (i - 1) (0, 0)) with h' | h' | h'
          · exact ltP_trans h' hlt
          · rw [h']; exact hlt
          · exact absurd h' this
        refine ⟨List.pairwise_append.2 ⟨h1, List.pairwise_singleton _ _, fun a ha b hb => by rw [List.mem_singleton.1 hb]; exact hlast a ha⟩, fun p hp => ?_⟩
        rcases List.mem_append.1 hp with h' | h'
        · intro h''; exact ltP_irr _ (ltP_trans h'' (hlast p h'))
        · rw [List.mem_singleton.1 h']; exact ltP_irr _
/-- What impl.sorted gives. -/
def IsSet (xs ys : List (Int × Int)) : Prop := Asc ys ∧ ∀ p, p ∈ ys ↔ p ∈ xs
theorem comp_isSet {xs zs : List (Int × Int)} (hp : zs.Perm xs) (hs : zs.Pairwise (fun a b => ¬ ltP b a)) : IsSet xs (compTo zs zs.length) :=
  ⟨(compTo_asc hs _ (Nat.le_refl _)).1, fun p => by rw [compTo_mem zs _ (Nat.le_refl _), List.take_length]; exact hp.mem_iff⟩
end Go.Proofs.Ytlkamicaoljefaa

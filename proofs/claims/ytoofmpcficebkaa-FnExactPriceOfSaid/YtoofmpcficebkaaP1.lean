/- The plain law of mazes: cells, ways, prices; no program in sight. -/
import Derived.Test.YtoofmpcficebkaaEngZA
set_option linter.unusedSimpArgs false
set_option linter.unusedVariables false
namespace Go.Proofs.Ytoofmpcficebkaa
open Go.Eng

abbrev Mz := List (List Int)
abbrev Pt := Int × Int
def width (m : Mz) : Nat := (m.getD 0 []).length
def RowIs (w : Nat) (r : List Int) : Prop := r.length = w ∧ ∀ x, x < r.length → 0 ≤ r.getD x 0 ∧ r.getD x 0 ≤ 9
/-- Is a maze valid? -/
def MzOk (m : Mz) : Prop := (1 ≤ m.length ∧ m.length ≤ 12) ∧ (1 ≤ width m ∧ width m ≤ 12) ∧ ∀ y, y < m.length → RowIs (width m) (m.getD y [])
noncomputable instance (m : Mz) : Decidable (MzOk m) := Classical.propDecidable _
def cell (m : Mz) (p : Pt) : Int := (m.getD p.2.toNat []).getD p.1.toNat 0
def InMz (m : Mz) (p : Pt) : Prop := (0 ≤ p.2 ∧ p.2 ≤ (m.length : Int) - 1) ∧ (0 ≤ p.1 ∧ p.1 ≤ (width m : Int) - 1)
instance (m : Mz) (p : Pt) : Decidable (InMz m p) := by unfold InMz; exact inferInstance
/-- A point of an open cell. -/
def OpenAt (m : Mz) (p : Pt) : Prop := InMz m p ∧ 0 < cell m p
instance (m : Mz) (p : Pt) : Decidable (OpenAt m p) := by unfold OpenAt; exact inferInstance
theorem MzOk.cell {m : Mz} (h : MzOk m) {p : Pt} (hp : InMz m p) : p.2.toNat < m.length ∧ (m.getD p.2.toNat []).length = width m ∧ p.1.toNat < (m.getD p.2.toNat []).length ∧ 0 ≤ cell m p ∧ cell m p ≤ 9 := by
  obtain ⟨h1, h2, h3⟩ := h
  obtain ⟨⟨p1, p2⟩, p3, p4⟩ := hp
  have hy : p.2.toNat < m.length := by omega
  obtain ⟨g1, g2⟩ := h3 _ hy
  have hx : p.1.toNat < (m.getD p.2.toNat []).length := by omega
  exact ⟨hy, g1, hx, g2 _ hx⟩
/-- The neighbour to which a direction leads. -/
def stepTo (p : Pt) (k : Int) : Pt := if k = 0 then (p.1, p.2 - 1) else if k = 1 then (p.1 - 1, p.2) else if k = 2 then (p.1 + 1, p.2) else (p.1, p.2 + 1)
/-- The direction of a letter; -1 of none. -/
def letter (c : Int) : Int := if c = 100 then 0 else if c = 108 then 1 else if c = 114 then 2 else if c = 117 then 3 else -1
/-- The cells of the first i steps. -/
def wayTo (m : Mz) (from_ : Pt) (s : ByteArray) : Nat → Option (List Pt)
  | 0 => some [from_]
  | i + 1 => match wayTo m from_ s i with
    | none => none
    | some l => if 0 ≤ letter (byteAt s i) ∧ OpenAt m (stepTo (l.getD i (0, 0)) (letter (byteAt s i))) then some (l ++ [stepTo (l.getD i (0, 0)) (letter (byteAt s i))]) else none
def wayOf (m : Mz) (from_ : Pt) (s : ByteArray) : Option (List Pt) := wayTo m from_ s s.size
theorem wayTo_len {m : Mz} {f : Pt} {s : ByteArray} : ∀ {i : Nat} {l : List Pt}, wayTo m f s i = some l → l.length = i + 1
  | 0, l, h => by simp [wayTo] at h; subst h; rfl
  | i + 1, l, h => by
    unfold wayTo at h
    split at h
    · cases h
    · rename_i l' hl
      split at h
      · cases h; simp [wayTo_len hl]
      · cases h
theorem wayTo_open {m : Mz} {f : Pt} {s : ByteArray} (hf : OpenAt m f) : ∀ {i : Nat} {l : List Pt}, wayTo m f s i = some l → ∀ j, j < i + 1 → OpenAt m (l.getD j (0, 0))
  | 0, l, h, j, hj => by
    simp [wayTo] at h; subst h
    obtain rfl : j = 0 := by omega
    exact hf
  | i + 1, l, h, j, hj => by
    unfold wayTo at h
    split at h
    · cases h
    · rename_i l' hl
      have hlen := wayTo_len hl
      split at h
      · rename_i hc
        cases h
        by_cases e : j < i + 1
        · have := wayTo_open hf hl j e
          simp only [List.getD] at this ⊢
          rw [List.getElem?_append_left (by omega)]; exact this
        · obtain rfl : j = i + 1 := by omega
          have : (l' ++ [stepTo (l'.getD i (0, 0)) (letter (byteAt s i))]).getD (i + 1) (0, 0) = stepTo (l'.getD i (0, 0)) (letter (byteAt s i)) := by
            simp only [List.getD]
            rw [List.getElem?_append_right (by omega), hlen, Nat.sub_self]; rfl
          rw [this]; exact hc.2
      · cases h
/-- Once lost, always lost. -/
theorem wayTo_none {m : Mz} {f : Pt} {s : ByteArray} {i : Nat} (h : wayTo m f s i = none) : ∀ d, wayTo m f s (i + d) = none
  | 0 => h
  | d + 1 => by
    have := wayTo_none h d
    show wayTo m f s ((i + d) + 1) = none
    unfold wayTo
    rw [this]
/-- The price of the first i steps along some cells. -/
def priceTo (m : Mz) (l : List Pt) (s : ByteArray) (bend : Int) : Nat → Int
  | 0 => 0
  | i + 1 => priceTo m l s bend i + cell m (l.getD (i + 1) (0, 0)) + (if 0 < i ∧ byteAt s i ≠ byteAt s (i - 1) then bend else 0)
end Go.Proofs.Ytoofmpcficebkaa

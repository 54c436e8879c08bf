/- The plain law of channels: columns, spans, nets, densities; no program in sight. -/
import Derived.Test.YtlgagjboijkpgaaDoorEngZA
set_option linter.unusedSimpArgs false
set_option linter.unusedVariables false
namespace Go.Proofs.YtlgagjboijkpgaaDoor
open Go.Eng

abbrev Ch := List Int × List Int
def HasC (c : Ch) (net : Int) (i : Nat) : Prop := c.1.getD i 0 = net ∨ c.2.getD i 0 = net
instance (c : Ch) (net : Int) (i : Nat) : Decidable (HasC c net i) := by unfold HasC; exact inferInstance
/-- The columns below i with pins of a net. -/
def colsTo (c : Ch) (net : Int) : Nat → List Int
  | 0 => []
  | i + 1 => if HasC c net i then colsTo c net i ++ [(i : Int)] else colsTo c net i
def cols (c : Ch) (net : Int) : List Int := colsTo c net c.1.length
/-- The first and the last of them; -1 if there are none. -/
def spanTo (c : Ch) (net : Int) : Nat → Int × Int
  | 0 => (-1, -1)
  | i + 1 => if HasC c net i then (if (spanTo c net i).1 < 0 then (i : Int) else (spanTo c net i).1, (i : Int)) else spanTo c net i
def span (c : Ch) (net : Int) : Int × Int := spanTo c net c.1.length
theorem colsTo_len (c : Ch) (net : Int) : ∀ i, (colsTo c net i).length ≤ i
  | 0 => Nat.le_refl _
  | i + 1 => by
    have := colsTo_len c net i
    unfold colsTo
    split
    · simp; omega
    · omega
theorem spanTo_bnd (c : Ch) (net : Int) : ∀ i, -1 ≤ (spanTo c net i).1 ∧ (spanTo c net i).1 ≤ (spanTo c net i).2 ∧ (spanTo c net i).2 < i ∧ ((spanTo c net i).1 < 0 → (spanTo c net i).2 < 0)
  | 0 => by simp [spanTo]
  | i + 1 => by
    have := spanTo_bnd c net i
    unfold spanTo
    split
    · split <;> simp only <;> omega
    · omega
theorem span_cols (c : Ch) (net : Int) : ∀ i, (colsTo c net i = [] ∧ (spanTo c net i).1 < 0) ∨
    (0 < (colsTo c net i).length ∧ 0 ≤ (spanTo c net i).1 ∧ (colsTo c net i).getD 0 0 = (spanTo c net i).1 ∧ (colsTo c net i).getD ((colsTo c net i).length - 1) 0 = (spanTo c net i).2 ∧
      (1 < (colsTo c net i).length ↔ (spanTo c net i).1 < (spanTo c net i).2))
  | 0 => .inl ⟨rfl, by simp [spanTo]⟩
  | i + 1 => by
    have ih := span_cols c net i
    have hb := spanTo_bnd c net i
    unfold colsTo spanTo
    split
    · right
      rcases ih with ⟨h1, h2⟩ | ⟨h0, h1, h2, h3, h4⟩
      · rw [h1, if_pos h2]
        simp
      · rw [if_neg (by omega)]
        have g1 : (colsTo c net i ++ [(i : Int)]).getD 0 0 = (colsTo c net i).getD 0 0 := by
          simp only [List.getD]; rw [List.getElem?_append_left h0]
        have g2 : (colsTo c net i ++ [(i : Int)]).length = (colsTo c net i).length + 1 := by simp
        have g3 : (colsTo c net i ++ [(i : Int)]).getD ((colsTo c net i).length + 1 - 1) 0 = (i : Int) := by
          simp [List.getD]
        simp only
        rw [g1, g2, g3, h2]
        refine ⟨by omega, h1, rfl, rfl, ?_⟩
        exact ⟨fun _ => by omega, fun _ => by omega⟩
    · exact ih
theorem span_ok (c : Ch) (net : Int) : (cols c net = [] ∧ (span c net).1 < 0) ∨
    (0 < (cols c net).length ∧ 0 ≤ (span c net).1 ∧ (cols c net).getD 0 0 = (span c net).1 ∧ (cols c net).getD ((cols c net).length - 1) 0 = (span c net).2 ∧ (1 < (cols c net).length ↔ (span c net).1 < (span c net).2)) := span_cols c net _
/-- The nets up to n that need a track. -/
def netsTo (c : Ch) : Nat → List Int
  | 0 => []
  | n + 1 => if 1 < (cols c ((n : Int) + 1)).length then netsTo c n ++ [(n : Int) + 1] else netsTo c n
def nets (c : Ch) : List Int := netsTo c 12
theorem netsTo_len (c : Ch) : ∀ n, (netsTo c n).length ≤ n
  | 0 => Nat.le_refl _
  | n + 1 => by
    have := netsTo_len c n
    unfold netsTo
    split
    · simp; omega
    · omega
theorem nets_len (c : Ch) : (nets c).length ≤ 12 := netsTo_len c 12
theorem netsTo_mem (c : Ch) : ∀ n, ∀ x ∈ netsTo c n, 1 ≤ x ∧ x ≤ n ∧ 1 < (cols c x).length
  | 0, x, h => by simp [netsTo] at h
  | n + 1, x, h => by
    unfold netsTo at h
    split at h
    · rename_i hc
      rcases List.mem_append.1 h with h | h
      · have := netsTo_mem c n x h; push_cast; omega
      · simp at h; subst h; refine ⟨by omega, by push_cast; omega, hc⟩
    · have := netsTo_mem c n x h; push_cast; omega
theorem nets_mem (c : Ch) {x : Int} (h : x ∈ nets c) : 1 ≤ x ∧ x ≤ 12 ∧ 1 < (cols c x).length := netsTo_mem c 12 x h
theorem nets_getD (c : Ch) {i : Nat} (h : i < (nets c).length) : (nets c).getD i 0 ∈ nets c := by
  simp only [List.getD, List.getElem?_eq_getElem h, Option.getD_some]; exact List.getElem_mem h
/-- Of a net that needs a track: its span, out of its columns. -/
theorem net_span (c : Ch) {x : Int} (h : 1 < (cols c x).length) : (cols c x).getD 0 0 = (span c x).1 ∧ (cols c x).getD ((cols c x).length - 1) 0 = (span c x).2 := by
  rcases span_ok c x with ⟨h1, _⟩ | ⟨_, _, h2, h3, _⟩
  · rw [h1] at h; simp at h
  · exact ⟨h2, h3⟩
theorem net_iff (c : Ch) (x : Int) : 1 < (cols c x).length ↔ (0 ≤ (span c x).1 ∧ (span c x).1 < (span c x).2) := by
  rcases span_ok c x with ⟨h1, h2⟩ | ⟨_, h1, _, _, h4⟩
  · rw [h1]; simp; omega
  · rw [h4]; exact ⟨fun h => ⟨h1, h⟩, fun h => h.2⟩

/-- How many of the first i nets have a column in their span. -/
def densTo (c : Ch) (col : Int) : Nat → Int
  | 0 => 0
  | i + 1 => if (span c ((nets c).getD i 0)).1 ≤ col ∧ col ≤ (span c ((nets c).getD i 0)).2 then densTo c col i + 1 else densTo c col i
def dens (c : Ch) (col : Int) : Int := densTo c col (nets c).length
theorem densTo_bnd (c : Ch) (col : Int) : ∀ i, 0 ≤ densTo c col i ∧ densTo c col i ≤ i
  | 0 => by simp [densTo]
  | i + 1 => by
    have := densTo_bnd c col i
    unfold densTo
    split <;> push_cast <;> omega
def mostTo (c : Ch) : Nat → Int
  | 0 => 0
  | i + 1 => max (mostTo c i) (dens c i)
def most (c : Ch) : Int := mostTo c c.1.length

/-- Is a channel valid? -/
def ChOk (c : Ch) : Prop := (1 ≤ c.1.length ∧ c.1.length ≤ 24 ∧ c.2.length = c.1.length) ∧ (∀ x ∈ c.1 ++ c.2, 0 ≤ x ∧ x ≤ 12) ∧ ∀ k : Int, 1 ≤ k → k ≤ 12 → (c.1 ++ c.2).count k ≠ 1
noncomputable instance (c : Ch) : Decidable (ChOk c) := Classical.propDecidable _
/-- A list with a number 1 .. 12 that stands in it just once. -/
def Lone (l : List Int) : Prop := ∃ k : Int, 1 ≤ k ∧ k ≤ 12 ∧ l.count k = 1
end Go.Proofs.YtlgagjboijkpgaaDoor

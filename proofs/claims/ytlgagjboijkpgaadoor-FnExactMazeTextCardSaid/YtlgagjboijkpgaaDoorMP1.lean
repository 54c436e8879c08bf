/- The plain law of mazes' texts; no program in sight. -/
import Derived.Test.YtlgagjboijkpgaaDoorW3
set_option linter.unusedSimpArgs false
set_option linter.unusedVariables false
namespace Go.Proofs.YtlgagjboijkpgaaDoor
open Go.Lib Go.Eng

abbrev Mz := List (List Int)
def width (m : Mz) : Nat := (m.getD 0 []).length
def RowIs (w : Nat) (r : List Int) : Prop := r.length = w ∧ ∀ x, x < r.length → 0 ≤ r.getD x 0 ∧ r.getD x 0 ≤ 9
/-- Is a maze valid? -/
def MzOk (m : Mz) : Prop := (1 ≤ m.length ∧ m.length ≤ 12) ∧ (1 ≤ width m ∧ width m ≤ 12) ∧ ∀ y, y < m.length → RowIs (width m) (m.getD y [])
noncomputable instance (m : Mz) : Decidable (MzOk m) := Classical.propDecidable _
/-- The byte of a cell. -/
def cellB (n : Int) : UInt8 := if n = 0 then 35 else UInt8.ofNat (48 + n.toNat)
def rowB (r : List Int) (x : Nat) : List UInt8 := (r.take x).map cellB
theorem rowB_zero (r : List Int) : rowB r 0 = [] := by simp [rowB]
theorem rowB_succ {r : List Int} {x : Nat} (h : x < r.length) : rowB r (x + 1) = rowB r x ++ [cellB (r.getD x 0)] := by
  unfold rowB
  have e : r.take (x + 1) = r.take x ++ [r.getD x 0] := by rw [List.take_add_one, List.getElem?_eq_getElem h]; simp [List.getD, h]
  rw [e, List.map_append]; rfl
theorem rowB_len {r : List Int} {x : Nat} (h : x ≤ r.length) : (rowB r x).length = x := by simp [rowB]; omega
def rowsB (m : Mz) (y : Nat) : List (List UInt8) := (m.take y).map fun r => rowB r r.length
theorem rowsB_succ {m : Mz} {y : Nat} (h : y < m.length) : rowsB m (y + 1) = rowsB m y ++ [rowB (m.getD y []) (m.getD y []).length] := by
  unfold rowsB
  have e : m.take (y + 1) = m.take y ++ [m.getD y []] := by rw [List.take_add_one, List.getElem?_eq_getElem h]; simp [List.getD, h]
  rw [e, List.map_append]; rfl
def mzTo (m : Mz) (y : Nat) : List UInt8 := Lib.join (rowsB m y) [47]
theorem mzTo_zero (m : Mz) : mzTo m 0 = [] := by simp [mzTo, rowsB, join_nil]
/-- What stands before a row. -/
def preB (m : Mz) (y : Nat) : List UInt8 := if y = 0 then [] else mzTo m y ++ [47]
theorem mzTo_succ {m : Mz} {y : Nat} (h : y < m.length) : mzTo m (y + 1) = preB m y ++ rowB (m.getD y []) (m.getD y []).length := by
  unfold mzTo preB
  rw [rowsB_succ h]
  split
  · rename_i h0; subst h0
    simp [rowsB, join_one]
  · rename_i h0
    have hne : rowsB m y ≠ [] := fun hnil => by
      have := congrArg List.length hnil
      simp only [rowsB, List.length_map, List.length_take, List.length_nil] at this
      omega
    rw [join_snoc hne]
    simp [mzTo]
theorem MzOk.row {m : Mz} (h : MzOk m) {y : Nat} (hy : y < m.length) : (m.getD y []).length ≤ 12 ∧ ∀ x, x < (m.getD y []).length → 0 ≤ (m.getD y []).getD x 0 ∧ (m.getD y []).getD x 0 ≤ 9 := by
  have h1 := h.2.2 y hy
  have h2 := h.2.1
  exact ⟨by have := h1.1; omega, h1.2⟩
theorem mzTo_len {m : Mz} (h : MzOk m) (y : Nat) : y ≤ m.length → (mzTo m y).length ≤ 13 * y := by
  induction y with
  | zero => intro _; rw [mzTo_zero]; simp
  | succ y ih =>
    intro hy
    have h1 := ih (by omega)
    have h2 := (h.row (y := y) (by omega)).1
    rw [mzTo_succ (by omega), List.length_append, rowB_len (Nat.le_refl _)]
    unfold preB
    split
    · simp only [List.length_nil]; omega
    · simp only [List.length_append, List.length_cons, List.length_nil]; omega
theorem preB_len {m : Mz} (h : MzOk m) {y : Nat} (hy : y ≤ m.length) : (preB m y).length ≤ 13 * y + 1 := by
  have := mzTo_len h y hy
  unfold preB
  split
  · simp
  · simp only [List.length_append, List.length_cons, List.length_nil]; omega
theorem itoa_cell {n : Int} (h : 0 ≤ n ∧ n ≤ 9) (h0 : n ≠ 0) : itoa n = [cellB n] := by
  unfold cellB
  rw [if_neg h0, itoa_abs, if_neg (by omega), decDigits_small (by omega), show n.natAbs = n.toNat by omega]
theorem cellB_at {n : Int} (h : 0 ≤ n ∧ n ≤ 9) (h0 : n ≠ 0) : ((cellB n).toNat : Int) = 48 + n := by
  unfold cellB
  rw [if_neg h0, UInt8.toNat_ofNat', Nat.mod_eq_of_lt (by omega)]
  omega
/-- The text of a maze. -/
def mzB (m : Mz) : List UInt8 := mzTo m m.length
end Go.Proofs.YtlgagjboijkpgaaDoor

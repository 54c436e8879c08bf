/- Walks: lists handed over; the text of a list. -/
import Derived.Test.YtlgagjboijkpgaaDoorF0
import Derived.Test.YtlgagjboijkpgaaDoorCW1
import Derived.Shelf.Strings.OnBuilder
set_option linter.unusedSimpArgs false
set_option linter.unusedVariables false
set_option maxHeartbeats 1000000
namespace Go.Proofs.YtlgagjboijkpgaaDoor
open Go.Shelf Go.RowKit Go.Lib Go.Sort Go.Proofs Go.Eng

shelf_lay Lays.n156 Nm 156 at Tryd as lays156
theorem extra156 : Builder.Extra Tryd.prog lays156_ren where
  sizeBuilder := by kernel_rfl
  liesBuilder := by kernel_rfl
  t5 := Tryd.underlying5
  a5 := Tryd.isAgg5
  z5 := Tryd.sizeOf5
  v5 := Tryd.zeroValue5
  infoByte := by kernel_rfl
  cellsByte := by kernel_rfl
  sizeByte := by kernel_rfl
  neB5 := by decide
theorem bsz (l : List UInt8) : (⟨l.toArray⟩ : ByteArray).size = l.length := by simp [ByteArray.size]
theorem bapp (a b : List UInt8) : (⟨a.toArray⟩ : ByteArray) ++ ⟨b.toArray⟩ = ⟨(a ++ b).toArray⟩ := by
  apply ByteArray.ext; simp
theorem join_snoc {l : List (List UInt8)} (hl : l ≠ []) (y sep : List UInt8) : Lib.join (l ++ [y]) sep = Lib.join l sep ++ (sep ++ y) := by
  match l, hl with
  | x :: r, _ => rw [List.cons_append, join_cons, join_cons]; simp [joinTail]
theorem join77_ac (xs : List ByteArray) (sep : ByteArray) (h0 : 0 < xs.length) (hx : xs.length ≤ 1000) (hlen : (Lib.join (xs.map (·.data.toList)) sep.data.toList).length ≤ 140737488355328) (H : List ABox) :
    AC Tryd.prog 77 [.rd .str xs, .v (.string sep)] H (fun r H' => r = .v (.string (⟨(Lib.join (xs.map (·.data.toList)) sep.data.toList).toArray⟩)) ∧ H' = H) := by
  refine AC.lib1 ⟨_, Tryd.func77, by decide, by decide⟩ fun c vs w hv hh => ?_
  obtain ⟨x, y, rfl, hx', hy⟩ := hv.args2
  have ey := hy.v_inv; subst ey
  cases hx' with
  | @rd _ _ ad cp n g hl hcp ha hr =>
    subst hl
    obtain ⟨b, o, cells, T, fr, rfl, h3, h4⟩ := ha h0
    have hw := hh.sealed _ _ h3
    have hbk : b < w.heap.size := (Array.getElem?_eq_some_iff.1 hw).1
    refine (Any.strings_Join lays156 extra156 b o cp xs sep w (fun j z hz => ?_) hbk (by omega) hcp hlen).mono ?_
    · have hj : j < xs.length := (List.getElem?_eq_some_iff.1 hz).1
      have h5 := h4 j 0 hj (by decide)
      have h6 := (hr j 0 hj (by decide)).v_inv
      simp only [ETy.sz, Nat.mul_one, Nat.add_zero] at h5
      show (match w.heap[b]? with | some (.cells c _ _) => _ | _ => _) = _
      rw [hw]
      simp only [Option.isSome, Bool.false_eq_true, if_false]
      rw [h5, h6]
      have e1 : xs.getD j ByteArray.empty = z := by simp [List.getD, hz]
      have e2 : xs.getD j (ETy.d .str) = z := e1
      rw [e2]
    · rintro e w' ⟨rfl, hb⟩
      exact ⟨_, rfl, .v _, hb⟩
end Go.Proofs.YtlgagjboijkpgaaDoor

/- Walks: lists handed over; the text of a list. -/
import Derived.Test.YtlgagjboijkpgaaDoorF0
import Derived.Test.YtlgagjboijkpgaaDoorCW1
import Derived.Shelf.Strings.OnBuilder
set_option linter.unusedSimpArgs false
set_option linter.unusedVariables false
set_option maxHeartbeats 1000000
namespace Go.Proofs.YtlgagjboijkpgaaDoor
open Go.Shelf Go.RowKit Go.Lib Go.Sort Go.Proofs Go.Eng

def lays156_ren : Go.Shelf.Ren := ⟨fun | 156 => 77 | 165 => 99 | 166 => 100 | 169 => 101 | 240 => 116 | 241 => 117 | 276 => 136 | 277 => 137 | n => n, fun | 31 => 84 | 9 => 9 | 3 => 3 | 4 => 4 | 0 => 0 | 20 => 20 | 72 => 110 | 76 => 112 | 70 => 108 | 37 => 101 | 75 => 71 | 127 => 134 | 164 => 150 | 5 => 5 | 80 => 114 | n => n, fun | n => n⟩
theorem lays156 : Go.Proofs.Lays.n156 Tryd.prog lays156_ren := {
  mixed := by kernel_rfl
  f156 := Tryd.func77.trans (congrArg some (by kernel_rfl))
  f165 := Tryd.func99.trans (congrArg some (by kernel_rfl))
  f166 := Tryd.func100.trans (congrArg some (by kernel_rfl))
  f169 := Tryd.func101.trans (congrArg some (by kernel_rfl))
  f240 := Tryd.func116.trans (congrArg some (by kernel_rfl))
  f241 := Tryd.func117.trans (congrArg some (by kernel_rfl))
  f276 := Tryd.func136.trans (congrArg some (by kernel_rfl))
  f277 := Tryd.func137.trans (congrArg some (by kernel_rfl))
  t0 := Tryd.underlying0
  a0 := Tryd.isAgg0
  z0 := Tryd.sizeOf0
  v0 := Tryd.zeroValue0
  t3 := Tryd.underlying3
  a3 := Tryd.isAgg3
  z3 := Tryd.sizeOf3
  v3 := Tryd.zeroValue3
  t4 := Tryd.underlying4
  a4 := Tryd.isAgg4
  z4 := Tryd.sizeOf4
  v4 := Tryd.zeroValue4
  t9 := Tryd.underlying9
  a9 := Tryd.isAgg9
  z9 := Tryd.sizeOf9
  v9 := Tryd.zeroValue9
  t20 := Tryd.underlying20
  a20 := Tryd.isAgg20
  z20 := Tryd.sizeOf20
  v20 := Tryd.zeroValue20
  t31 := Tryd.underlying84
  a31 := Tryd.isAgg84
  z31 := Tryd.sizeOf84
  v31 := Tryd.zeroValue84
  t37 := Tryd.underlying101
  a37 := Tryd.isAgg101
  z37 := Tryd.sizeOf101
  v37 := Tryd.zeroValue101
  t70 := Tryd.underlying108
  a70 := Tryd.isAgg108
  z70 := Tryd.sizeOf108
  v70 := Tryd.zeroValue108
  t72 := Tryd.underlying110
  a72 := Tryd.isAgg110
  z72 := Tryd.sizeOf110
  v72 := Tryd.zeroValue110
  t75 := Tryd.underlying71
  a75 := Tryd.isAgg71
  z75 := Tryd.sizeOf71
  v75 := Tryd.zeroValue71
  t76 := Tryd.underlying112
  a76 := Tryd.isAgg112
  z76 := Tryd.sizeOf112
  v76 := Tryd.zeroValue112
  t127 := Tryd.underlying134
  a127 := Tryd.isAgg134
  z127 := Tryd.sizeOf134
  v127 := Tryd.zeroValue134
  t164 := Tryd.underlying150
  a164 := Tryd.isAgg150
  z164 := Tryd.sizeOf150
  v164 := Tryd.zeroValue150 }
theorem extra156 : Builder.Extra Tryd.prog lays156_ren where
  sizeBuilder := by kernel_rfl
  liesBuilder := by kernel_rfl
  t5 := Tryd.underlying5
  a5 := Tryd.isAgg5
  z5 := Tryd.sizeOf5
  v5 := Tryd.zeroValue5
  infoByte := by kernel_rfl
  cellsByte := by kernel_rfl
  sizeByte := by kernel_rfl
  neB5 := by decide
theorem bsz (l : List UInt8) : (⟨l.toArray⟩ : ByteArray).size = l.length := by simp [ByteArray.size]
theorem bapp (a b : List UInt8) : (⟨a.toArray⟩ : ByteArray) ++ ⟨b.toArray⟩ = ⟨(a ++ b).toArray⟩ := by
  apply ByteArray.ext; simp
theorem join_snoc {l : List (List UInt8)} (hl : l ≠ []) (y sep : List UInt8) : Lib.join (l ++ [y]) sep = Lib.join l sep ++ (sep ++ y) := by
  match l, hl with
  | x :: r, _ => rw [List.cons_append, join_cons, join_cons]; simp [joinTail]
theorem join77_ac (xs : List ByteArray) (sep : ByteArray) (h0 : 0 < xs.length) (hx : xs.length ≤ 1000) (hlen : (Lib.join (xs.map (·.data.toList)) sep.data.toList).length ≤ 140737488355328) (H : List ABox) :
    AC Tryd.prog 77 [.rd .str xs, .v (.string sep)] H (fun r H' => r = .v (.string (⟨(Lib.join (xs.map (·.data.toList)) sep.data.toList).toArray⟩)) ∧ H' = H) := by
  refine AC.lib1 ⟨_, Tryd.func77, by decide, by decide⟩ fun c vs w hv hh => ?_
  obtain ⟨x, y, rfl, hx', hy⟩ := hv.args2
  have ey := hy.v_inv; subst ey
  cases hx' with
  | @rd _ _ ad cp n g hl hcp ha hr =>
    subst hl
    obtain ⟨b, o, cells, T, fr, rfl, h3, h4⟩ := ha h0
    have hw := hh.sealed _ _ h3
    have hbk : b < w.heap.size := (Array.getElem?_eq_some_iff.1 hw).1
    refine (Any.strings_Join lays156 extra156 b o cp xs sep w (fun j z hz => ?_) hbk (by omega) hcp hlen).mono ?_
    · have hj : j < xs.length := (List.getElem?_eq_some_iff.1 hz).1
      have h5 := h4 j 0 hj (by decide)
      have h6 := (hr j 0 hj (by decide)).v_inv
      simp only [ETy.sz, Nat.mul_one, Nat.add_zero] at h5
      show (match w.heap[b]? with | some (.cells c _ _) => _ | _ => _) = _
      rw [hw]
      simp only [Option.isSome, Bool.false_eq_true, if_false]
      rw [h5, h6]
      have e1 : xs.getD j ByteArray.empty = z := by simp [List.getD, hz]
      have e2 : xs.getD j (ETy.d .str) = z := e1
      rw [e2]
    · rintro e w' ⟨rfl, hb⟩
      exact ⟨_, rfl, .v _, hb⟩
end Go.Proofs.YtlgagjboijkpgaaDoor

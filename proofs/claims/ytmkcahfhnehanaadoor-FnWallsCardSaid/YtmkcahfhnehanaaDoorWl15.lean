/- Texts of this seat that the law stands on, put together. No conditions. -/
import Derived.Shelf.Strings.OnBuilder
import Derived.Test.YtmkcahfhnehanaaDoorWl14
section
set_option linter.unusedSimpArgs false
set_option linter.unusedVariables false
set_option maxHeartbeats 1000000
namespace Go.Proofs.YtmkcahfhnehanaaDoor
open Go.Shelf Go.RowKit Go.Lib Go.Sort Go.Proofs Go.Eng
def lays156_ren : Go.Shelf.Ren := ⟨fun | 156 => 46 | 165 => 60 | 166 => 61 | 169 => 62 | 240 => 72 | 241 => 73 | 276 => 91 | 277 => 92 | n => n, fun | 31 => 81 | 9 => 9 | 3 => 3 | 4 => 4 | 0 => 0 | 20 => 20 | 72 => 100 | 76 => 104 | 70 => 98 | 37 => 22 | 75 => 103 | 127 => 115 | 164 => 130 | 5 => 5 | 80 => 106 | n => n, fun | n => n⟩
theorem lays156 : Go.Proofs.Lays.n156 Tryd.prog lays156_ren := {
  mixed := by kernel_rfl
  f156 := Tryd.func46.trans (congrArg some (by kernel_rfl))
  f165 := Tryd.func60.trans (congrArg some (by kernel_rfl))
  f166 := Tryd.func61.trans (congrArg some (by kernel_rfl))
  f169 := Tryd.func62.trans (congrArg some (by kernel_rfl))
  f240 := Tryd.func72.trans (congrArg some (by kernel_rfl))
  f241 := Tryd.func73.trans (congrArg some (by kernel_rfl))
  f276 := Tryd.func91.trans (congrArg some (by kernel_rfl))
  f277 := Tryd.func92.trans (congrArg some (by kernel_rfl))
  t0 := Tryd.underlying0
  a0 := Tryd.isAgg0
  z0 := Tryd.sizeOf0
  v0 := Tryd.zeroValue0
  t3 := Tryd.underlying3
  a3 := Tryd.isAgg3
  z3 := Tryd.sizeOf3
  v3 := Tryd.zeroValue3
  t4 := Tryd.underlying4
  a4 := Tryd.isAgg4
  z4 := Tryd.sizeOf4
  v4 := Tryd.zeroValue4
  t9 := Tryd.underlying9
  a9 := Tryd.isAgg9
  z9 := Tryd.sizeOf9
  v9 := Tryd.zeroValue9
  t20 := Tryd.underlying20
  a20 := Tryd.isAgg20
  z20 := Tryd.sizeOf20
  v20 := Tryd.zeroValue20
  t31 := Tryd.underlying81
  a31 := Tryd.isAgg81
  z31 := Tryd.sizeOf81
  v31 := Tryd.zeroValue81
  t37 := Tryd.underlying22
  a37 := Tryd.isAgg22
  z37 := Tryd.sizeOf22
  v37 := Tryd.zeroValue22
  t70 := Tryd.underlying98
  a70 := Tryd.isAgg98
  z70 := Tryd.sizeOf98
  v70 := Tryd.zeroValue98
  t72 := Tryd.underlying100
  a72 := Tryd.isAgg100
  z72 := Tryd.sizeOf100
  v72 := Tryd.zeroValue100
  t75 := Tryd.underlying103
  a75 := Tryd.isAgg103
  z75 := Tryd.sizeOf103
  v75 := Tryd.zeroValue103
  t76 := Tryd.underlying104
  a76 := Tryd.isAgg104
  z76 := Tryd.sizeOf104
  v76 := Tryd.zeroValue104
  t127 := Tryd.underlying115
  a127 := Tryd.isAgg115
  z127 := Tryd.sizeOf115
  v127 := Tryd.zeroValue115
  t164 := Tryd.underlying130
  a164 := Tryd.isAgg130
  z164 := Tryd.sizeOf130
  v164 := Tryd.zeroValue130 }
theorem extra156 : Builder.Extra Tryd.prog lays156_ren where
  sizeBuilder := by kernel_rfl
  liesBuilder := by kernel_rfl
  t5 := Tryd.underlying5
  a5 := Tryd.isAgg5
  z5 := Tryd.sizeOf5
  v5 := Tryd.zeroValue5
  infoByte := by kernel_rfl
  cellsByte := by kernel_rfl
  sizeByte := by kernel_rfl
  neB5 := by decide
theorem bsz (l : List UInt8) : (⟨l.toArray⟩ : ByteArray).size = l.length := by simp [ByteArray.size]
theorem bapp (a b : List UInt8) : (⟨a.toArray⟩ : ByteArray) ++ ⟨b.toArray⟩ = ⟨(a ++ b).toArray⟩ := by
  apply ByteArray.ext; simp
theorem join_snoc {l : List (List UInt8)} (hl : l ≠ []) (y sep : List UInt8) : Lib.join (l ++ [y]) sep = Lib.join l sep ++ (sep ++ y) := by
  match l, hl with
  | x :: r, _ => rw [List.cons_append, join_cons, join_cons]; simp [joinTail]
theorem join77_ac (xs : List ByteArray) (sep : ByteArray) (h0 : 0 < xs.length) (hx : xs.length ≤ 1000) (hlen : (Lib.join (xs.map (·.data.toList)) sep.data.toList).length ≤ 140737488355328) (H : List ABox) :
    AC Tryd.prog 46 [.rd .str xs, .v (.string sep)] H (fun r H' => r = .v (.string (⟨(Lib.join (xs.map (·.data.toList)) sep.data.toList).toArray⟩)) ∧ H' = H) := by
  refine AC.lib1 ⟨_, Tryd.func46, by decide, by decide⟩ fun c vs w hv hh => ?_
  obtain ⟨x, y, rfl, hx', hy⟩ := hv.args2
  have ey := hy.v_inv; subst ey
  cases hx' with
  | @rd _ _ ad cp n g hl hcp ha hr =>
    subst hl
    obtain ⟨b, o, cells, T, fr, rfl, h3, h4⟩ := ha h0
    have hw := hh.sealed _ _ h3
    have hbk : b < w.heap.size := (Array.getElem?_eq_some_iff.1 hw).1
    refine (Any.strings_Join lays156 extra156 b o cp xs sep w (fun j z hz => ?_) hbk (by omega) hcp hlen).mono ?_
    · have hj : j < xs.length := (List.getElem?_eq_some_iff.1 hz).1
      have h5 := h4 j 0 hj (by decide)
      have h6 := (hr j 0 hj (by decide)).v_inv
      simp only [ETy.sz, Nat.mul_one, Nat.add_zero] at h5
      show (match w.heap[b]? with | some (.cells c _ _) => _ | _ => _) = _
      rw [hw]
      simp only [Option.isSome, Bool.false_eq_true, if_false]
      rw [h5, h6]
      have e1 : xs.getD j ByteArray.empty = z := by simp [List.getD, hz]
      have e2 : xs.getD j (ETy.d .str) = z := e1
      rw [e2]
    · rintro e w' ⟨rfl, hb⟩
      exact ⟨_, rfl, .v _, hb⟩
end Go.Proofs.YtmkcahfhnehanaaDoor
end
section
set_option linter.unusedSimpArgs false
set_option linter.unusedVariables false
set_option maxHeartbeats 1000000
namespace Go.Proofs.YtmkcahfhnehanaaDoor
open Go.Lib Go.Eng
def valOk (n : Int) : Bool := decide (-1000000000 ≤ n ∧ n ≤ 1000000000)
/-- Few numbers, none too great. -/
def LsOk (xs : List Int) : Prop := xs.all valOk = true ∧ (xs.length : Int) ≤ 60
instance (xs : List Int) : Decidable (LsOk xs) := by unfold LsOk; exact inferInstance
end Go.Proofs.YtmkcahfhnehanaaDoor
end
section
set_option linter.unusedSimpArgs false
set_option linter.unusedVariables false
namespace Go.Proofs.YtmkcahfhnehanaaDoor
open Go.Lib Go.Eng
/-- The byte of a cell. -/
def cellB (n : Int) : UInt8 := if n = 0 then 35 else UInt8.ofNat (48 + n.toNat)
def rowB (r : List Int) (x : Nat) : List UInt8 := (r.take x).map cellB
theorem rowB_zero (r : List Int) : rowB r 0 = [] := by simp [rowB]
theorem rowB_succ {r : List Int} {x : Nat} (h : x < r.length) : rowB r (x + 1) = rowB r x ++ [cellB (r.getD x 0)] := by
  unfold rowB
  have e : r.take (x + 1) = r.take x ++ [r.getD x 0] := by rw [List.take_add_one, List.getElem?_eq_getElem h]; simp [List.getD, h]
  rw [e, List.map_append]; rfl
theorem rowB_len {r : List Int} {x : Nat} (h : x ≤ r.length) : (rowB r x).length = x := by simp [rowB]; omega
def rowsB (m : Mz) (y : Nat) : List (List UInt8) := (m.take y).map fun r => rowB r r.length
theorem rowsB_succ {m : Mz} {y : Nat} (h : y < m.length) : rowsB m (y + 1) = rowsB m y ++ [rowB (m.getD y []) (m.getD y []).length] := by
  unfold rowsB
  have e : m.take (y + 1) = m.take y ++ [m.getD y []] := by rw [List.take_add_one, List.getElem?_eq_getElem h]; simp [List.getD, h]
  rw [e, List.map_append]; rfl
def mzTo (m : Mz) (y : Nat) : List UInt8 := Lib.join (rowsB m y) [47]
theorem mzTo_zero (m : Mz) : mzTo m 0 = [] := by simp [mzTo, rowsB, join_nil]
/-- What stands before a row. -/
def preB (m : Mz) (y : Nat) : List UInt8 := if y = 0 then [] else mzTo m y ++ [47]
theorem mzTo_succ {m : Mz} {y : Nat} (h : y < m.length) : mzTo m (y + 1) = preB m y ++ rowB (m.getD y []) (m.getD y []).length := by
  unfold mzTo preB
  rw [rowsB_succ h]
  split
  · rename_i h0; subst h0
    simp [rowsB, join_one]
  · rename_i h0
    have hne : rowsB m y ≠ [] := fun hnil => by
      have := congrArg List.length hnil
      simp only [rowsB, List.length_map, List.length_take, List.length_nil] at this
      omega
    rw [join_snoc hne]
    simp [mzTo]
theorem MzOk.row {m : Mz} (h : MzOk m) {y : Nat} (hy : y < m.length) : (m.getD y []).length ≤ 12 ∧ ∀ x, x < (m.getD y []).length → 0 ≤ (m.getD y []).getD x 0 ∧ (m.getD y []).getD x 0 ≤ 9 := by
  have h1 := h.2.2 y hy
  have h2 := h.2.1
  exact ⟨by have := h1.1; omega, h1.2⟩
theorem mzTo_len {m : Mz} (h : MzOk m) (y : Nat) : y ≤ m.length → (mzTo m y).length ≤ 13 * y := by
  induction y with
  | zero => intro _; rw [mzTo_zero]; simp
  | succ y ih =>
    intro hy
    have h1 := ih (by omega)
    have h2 := (h.row (y := y) (by omega)).1
    rw [mzTo_succ (by omega), List.length_append, rowB_len (Nat.le_refl _)]
    unfold preB
    split
    · simp only [List.length_nil]; omega
    · simp only [List.length_append, List.length_cons, List.length_nil]; omega
theorem itoa_cell {n : Int} (h : 0 ≤ n ∧ n ≤ 9) (h0 : n ≠ 0) : itoa n = [cellB n] := by
  unfold cellB
  rw [if_neg h0, itoa_abs, if_neg (by omega), decDigits_small (by omega), show n.natAbs = n.toNat by omega]
/-- The text of a maze. -/
def mzB (m : Mz) : List UInt8 := mzTo m m.length
end Go.Proofs.YtmkcahfhnehanaaDoor
end
section
set_option linter.unusedSimpArgs false
set_option linter.unusedVariables false
set_option maxHeartbeats 1000000
namespace Go.Proofs.YtmkcahfhnehanaaDoor
open Go.Eng
theorem not98_ac (n : Int) (H : List ABox) : AC Tryd.prog 58 [.v (.int .i64 (n))] H (fun r H' => r = .v (.bool (!decide (0 ≤ n ∧ n ≤ 9))) ∧ H' = H) := by
  refine AC.enter envOk Tryd.func58 rfl (by decide) Tryd.ntmps58 Tryd.results58 (by simp) fun hB => ?_
  repeat' (first | (with_reducible first | refine AW.sreg envOk fun K hK => ?_ | refine AW.region envOk fun K hK => ?_ | refine vcL_nil ?_) | (with_reducible (first | refine vcL_cons fun K' hK' => ?_); simp only [isC, Bool.false_or, Bool.or_true, ↓reduceDIte, List.take_length, Nat.le_refl, List.drop_zero, vGuard, undef, Bool.not_eq_eq_eq_not, dstOk, vcOp, vcF, isPure, putS, vcCall, St.ev, St.put, lk, AVal.ofVal, initS, Nat.reduceLT, true_and, and_true, vUn, vPart, vLoad, AVal.flat, AVal.cell, cellsOk, setRange, ETy.enc, ETy.dec, ETy.sz, ETy.d, cond, Nat.reduceBEq, Nat.reduceAdd, Int.toNat_natCast, List.length_set, List.length_append, List.length_replicate, List.length_take, Nat.reduceSub, Nat.reduceEqDiff, get_loc, setBox_loc, next_eq, List.length_cons, List.length_nil, List.map_cons, List.map_nil, List.append_nil, List.nil_append, List.cons_append, List.set_cons_zero, List.set_cons_succ, getD_zero, getD_succ, List.getElem?_cons_succ, List.getElem?_cons_zero, List.take_succ_cons, List.take_zero, List.drop_succ_cons, List.all_cons, List.all_nil, Bool.and_true, Bool.true_and, Option.bind_some, Option.map_some, Option.map_none, decide_eq_true_eq, decide_eq_false_iff_not, ne_eq, Bool.not_eq_true, Bool.not_eq_false, Decidable.not_not, not_true_eq_false, not_false_eq_true, forall_const, false_implies, Bool.true_eq_false, Bool.false_eq_true, reduceCtorEq, decide_true, decide_false, Bool.not_true, Bool.not_false, if_true, if_false, Nat.zero_add, Nat.lt_irrefl, Value.oneCell', gt_iff_lt, Nat.reduceLeDiff, Nat.lt_add_one, vvar_2, vzero_2, vknd_2, vsn_2, vvar_4, vzero_4, vknd_4, vsn_4]; try simp (disch := omega) only [wrap64]) | (with_reducible refine hK' _ ?_; clear hK' K') | (with_reducible refine hK _ ?_; clear hK K) | (with_reducible first | refine vCall_pure (in51_ac _ _ _ _) ?_ | refine And.intro (And.intro rfl rfl) ?_ | refine And.intro (by omega) ?_) | (with_reducible refine And.intro (fun hg => ?_) (fun hg => ?_) <;> first | simp only [eq_false hg, rsB] | simp only [eq_true hg, rsB] | simp only [hg, rsB]) | (with_reducible first | refine And.intro rfl (And.intro rfl rfl) | refine thenQ_n ?_ | refine thenQ_exit ?_ | refine thenQ_ret ?_ | refine midQ_ret ?_ | refine midQ_exit ?_ | refine blockQ_same ?_ | refine blockQ_ne (by decide) ?_ | refine blockQ_ret ?_ | refine blockQ_n ?_ | refine AW.exit ?_ | refine AW.block ?_ | refine AW.cond_t rfl ?_ | refine AW.cond_f rfl ?_ | refine AW.cond_dec rfl (fun hc => ?_) (fun hc => ?_)) | (with_reducible refine AW.cond rfl (fun hc => ?_) (fun hc => ?_) <;> try simp only [Bool.not_eq_eq_eq_not, Bool.not_true, Bool.not_false, decide_eq_true_eq, decide_eq_false_iff_not] at hc) | (with_reducible first | refine AW.seq ?_ | refine AW.skip ?_ | refine AW.ret ?_ | refine And.intro ?_ ?_) | (with_reducible intro hg; first | simp only [eq_false hg, rsB] | simp only [eq_true hg, rsB]) | (with_reducible refine retQ_drop ?_; simp only [vRes, packRes, vLoad, vPart, lk, cond, Nat.reduceBEq, get_loc, getD_zero, getD_succ, true_and, List.length_cons, List.length_nil, Nat.reduceAdd, Nat.reduceLT, Nat.reduceLeDiff, List.take_succ_cons, List.take_zero, List.drop_succ_cons, List.drop_zero, vvar_2, vzero_2, vknd_2, vsn_2, vvar_4, vzero_4, vknd_4, vsn_4]) )
  exact ⟨_, _, FinOk.drop hB (Pl.ids (by (repeat' (first | exact Pl.v _ | exact Pl.junk | exact Pl.rd rfl _ | exact pl_nil | refine pl_cons ?_ ?_ | refine Pl.agg ?_ | refine Pl.tup ?_ | refine Pl.rp ?_ | refine Pl.fn ?_)); (first | done | fail))), rfl, rfl⟩
theorem idx91_ac (xs : List Int) (hx : xs.length ≤ 1000000000) (H : List ABox) : AC Tryd.prog 70 [.rd (.int .i64) (xs), .fn 58 []] H (fun r H' => ∃ n : Int, (0 ≤ n ↔ ¬ RowG xs) ∧ r = .v (.int .i64 (n)) ∧ H' = H) := by
  refine AC.enter envOk Tryd.func70 rfl (by decide) Tryd.ntmps70 Tryd.results70 (by simp) fun hB => ?_
  repeat' (first | (with_reducible first | refine AW.sreg envOk fun K hK => ?_ | refine AW.region envOk fun K hK => ?_ | refine vcL_nil ?_) | (with_reducible (first | refine vcL_cons fun K' hK' => ?_); simp only [isC, Bool.false_or, Bool.or_true, ↓reduceDIte, List.take_length, Nat.le_refl, List.drop_zero, vGuard, undef, Bool.not_eq_eq_eq_not, dstOk, vcOp, vcF, isPure, putS, vcCall, St.ev, St.put, lk, AVal.ofVal, initS, Nat.reduceLT, true_and, and_true, vBin, vPart, vLoad, vIdxA, vLen, AVal.flat, AVal.cell, cellsOk, setRange, ETy.enc, ETy.dec, ETy.sz, ETy.d, cond, Nat.reduceBEq, Nat.reduceAdd, Int.toNat_natCast, List.length_set, List.length_append, List.length_replicate, List.length_take, Nat.reduceSub, Nat.reduceEqDiff, get_loc, setBox_loc, next_eq, List.length_cons, List.length_nil, List.map_cons, List.map_nil, List.append_nil, List.nil_append, List.cons_append, List.set_cons_zero, List.set_cons_succ, getD_zero, getD_succ, List.getElem?_cons_succ, List.getElem?_cons_zero, List.take_succ_cons, List.take_zero, List.drop_succ_cons, List.all_cons, List.all_nil, Bool.and_true, Bool.true_and, Option.bind_some, Option.map_some, Option.map_none, decide_eq_true_eq, decide_eq_false_iff_not, ne_eq, Bool.not_eq_true, Bool.not_eq_false, Decidable.not_not, not_true_eq_false, not_false_eq_true, forall_const, false_implies, Bool.true_eq_false, Bool.false_eq_true, reduceCtorEq, decide_true, decide_false, Bool.not_true, Bool.not_false, if_true, if_false, Nat.zero_add, Nat.lt_irrefl, Value.oneCell', gt_iff_lt, Nat.reduceLeDiff, Nat.lt_add_one, vvar_2, vzero_2, vknd_2, vsn_2, vvar_3, vzero_3, vknd_3, vsn_3, vvar_4, vzero_4, vknd_4, vsn_4, vsl_24, vkn_24, vvar_24, vzero_24, vvar_72, vzero_72]; try simp (disch := omega) only [wrap64]) | (with_reducible refine hK' _ ?_; clear hK' K') | (with_reducible refine hK _ ?_; clear hK K) | (with_reducible first | refine And.intro (And.intro rfl rfl) ?_ | refine And.intro (by omega) ?_) | (with_reducible refine And.intro (fun hg => ?_) (fun hg => ?_) <;> first | simp only [eq_false hg, rsB] | simp only [eq_true hg, rsB] | simp only [hg, rsB]) | (with_reducible first | refine And.intro rfl (And.intro rfl rfl) | refine thenQ_n ?_ | refine thenQ_exit ?_ | refine thenQ_ret ?_ | refine midQ_ret ?_ | refine midQ_exit ?_ | refine blockQ_same ?_ | refine blockQ_ne (by decide) ?_ | refine blockQ_ret ?_ | refine blockQ_n ?_ | refine AW.exit ?_ | refine AW.block ?_ | refine AW.cond_t rfl ?_ | refine AW.cond_f rfl ?_ | refine AW.cond_dec rfl (fun hc => ?_) (fun hc => ?_)) | (with_reducible refine AW.cond rfl (fun hc => ?_) (fun hc => ?_) <;> try simp only [Bool.not_eq_eq_eq_not, Bool.not_true, Bool.not_false, decide_eq_true_eq, decide_eq_false_iff_not] at hc) | (with_reducible first | refine AW.seq ?_ | refine AW.skip ?_ | refine AW.ret ?_ | refine And.intro ?_ ?_) | (with_reducible intro hg; first | simp only [eq_false hg, rsB] | simp only [eq_true hg, rsB]) | (with_reducible refine retQ_drop ?_; simp only [vRes, packRes, vLoad, vPart, lk, cond, Nat.reduceBEq, get_loc, getD_zero, getD_succ, true_and, List.length_cons, List.length_nil, Nat.reduceAdd, Nat.reduceLT, Nat.reduceLeDiff, List.take_succ_cons, List.take_zero, List.drop_succ_cons, List.drop_zero, vvar_2, vzero_2, vknd_2, vsn_2, vvar_3, vzero_3, vknd_3, vsn_3, vvar_4, vzero_4, vknd_4, vsn_4, vsl_24, vkn_24, vvar_24, vzero_24, vvar_72, vzero_72]) )
  refine AW.loop (fun i : Nat => (⟨19, [(0, .rd (.int .i64) (xs)), (1, .fn 58 []), (7, .v (.int .i64 ((xs.length : Int)))), (8, .v (.int .i64 ((i : Int))))], H, []⟩ : St)) (fun i => i ≤ xs.length ∧ ∀ j, j < i → 0 ≤ xs.getD j 0 ∧ xs.getD j 0 ≤ 9) (fun i => xs.length - i) 0 ⟨Nat.zero_le _, fun j h => absurd h (by omega)⟩ (Weak.slots (by repeat' first | exact trivial | exact ⟨rfl, trivial⟩ | refine ⟨rfl, ?_⟩)) ?_
  intro i ⟨hi, hI⟩
  repeat' (first | (with_reducible first | refine AW.sreg envOk fun K hK => ?_ | refine AW.region envOk fun K hK => ?_ | refine vcL_nil ?_) | (with_reducible (first | refine vcL_cons fun K' hK' => ?_); simp only [isC, Bool.false_or, Bool.or_true, ↓reduceDIte, List.take_length, Nat.le_refl, List.drop_zero, vGuard, undef, Bool.not_eq_eq_eq_not, dstOk, vcOp, vcF, isPure, putS, vcCall, St.ev, St.put, lk, AVal.ofVal, initS, Nat.reduceLT, true_and, and_true, vBin, vPart, vLoad, vIdxA, vLen, AVal.flat, AVal.cell, cellsOk, setRange, ETy.enc, ETy.dec, ETy.sz, ETy.d, cond, Nat.reduceBEq, Nat.reduceAdd, Int.toNat_natCast, List.length_set, List.length_append, List.length_replicate, List.length_take, Nat.reduceSub, Nat.reduceEqDiff, get_loc, setBox_loc, next_eq, List.length_cons, List.length_nil, List.map_cons, List.map_nil, List.append_nil, List.nil_append, List.cons_append, List.set_cons_zero, List.set_cons_succ, getD_zero, getD_succ, List.getElem?_cons_succ, List.getElem?_cons_zero, List.take_succ_cons, List.take_zero, List.drop_succ_cons, List.all_cons, List.all_nil, Bool.and_true, Bool.true_and, Option.bind_some, Option.map_some, Option.map_none, decide_eq_true_eq, decide_eq_false_iff_not, ne_eq, Bool.not_eq_true, Bool.not_eq_false, Decidable.not_not, not_true_eq_false, not_false_eq_true, forall_const, false_implies, Bool.true_eq_false, Bool.false_eq_true, reduceCtorEq, decide_true, decide_false, Bool.not_true, Bool.not_false, if_true, if_false, Nat.zero_add, Nat.lt_irrefl, Value.oneCell', gt_iff_lt, Nat.reduceLeDiff, Nat.lt_add_one, vvar_2, vzero_2, vknd_2, vsn_2, vvar_3, vzero_3, vknd_3, vsn_3, vvar_4, vzero_4, vknd_4, vsn_4, vsl_24, vkn_24, vvar_24, vzero_24, vvar_72, vzero_72]; try simp (disch := omega) only [wrap64]) | (with_reducible refine hK' _ ?_; clear hK' K') | (with_reducible refine hK _ ?_; clear hK K) | (with_reducible first | refine vCall_pure (not98_ac _ _) ?_ | refine And.intro (And.intro rfl rfl) ?_ | refine And.intro (by omega) ?_) | (with_reducible refine And.intro (fun hg => ?_) (fun hg => ?_) <;> first | simp only [eq_false hg, rsB] | simp only [eq_true hg, rsB] | simp only [hg, rsB]) | (with_reducible first | refine And.intro rfl (And.intro rfl rfl) | refine thenQ_n ?_ | refine thenQ_exit ?_ | refine thenQ_ret ?_ | refine midQ_ret ?_ | refine midQ_exit ?_ | refine blockQ_same ?_ | refine blockQ_ne (by decide) ?_ | refine blockQ_ret ?_ | refine blockQ_n ?_ | refine AW.exit ?_ | refine AW.block ?_ | refine AW.cond_t rfl ?_ | refine AW.cond_f rfl ?_ | refine AW.cond_dec rfl (fun hc => ?_) (fun hc => ?_)) | (with_reducible refine AW.cond rfl (fun hc => ?_) (fun hc => ?_) <;> try simp only [Bool.not_eq_eq_eq_not, Bool.not_true, Bool.not_false, decide_eq_true_eq, decide_eq_false_iff_not] at hc) | (with_reducible first | refine AW.seq ?_ | refine AW.skip ?_ | refine AW.ret ?_ | refine And.intro ?_ ?_) | (with_reducible intro hg; first | simp only [eq_false hg, rsB] | simp only [eq_true hg, rsB]) | (with_reducible refine retQ_drop ?_; simp only [vRes, packRes, vLoad, vPart, lk, cond, Nat.reduceBEq, get_loc, getD_zero, getD_succ, true_and, List.length_cons, List.length_nil, Nat.reduceAdd, Nat.reduceLT, Nat.reduceLeDiff, List.take_succ_cons, List.take_zero, List.drop_succ_cons, List.drop_zero, vvar_2, vzero_2, vknd_2, vsn_2, vvar_3, vzero_3, vknd_3, vsn_3, vvar_4, vzero_4, vknd_4, vsn_4, vsl_24, vkn_24, vvar_24, vzero_24, vvar_72, vzero_72]) )
  · exact ⟨_, _, FinOk.drop hB (.v _), (i : Int), ⟨fun _ h => absurd (h i (by omega)) (by assumption), fun _ => by omega⟩, rfl, rfl⟩
  · refine ⟨i + 1, ⟨by omega, fun j hj => ?_⟩, by omega, (Weak.slots (by repeat' first | exact trivial | exact ⟨rfl, trivial⟩ | refine ⟨rfl, ?_⟩))⟩
    by_cases e : j = i
    · subst e; assumption
    · exact hI j (by omega)
  · exact ⟨_, _, FinOk.drop hB (.v _), (-1 : Int), ⟨fun h => absurd h (by omega), fun h => absurd (fun j hj => hI j (by omega)) h⟩, rfl, rfl⟩
theorem cont59m_ac (xs : List Int) (hx : xs.length ≤ 1000000000) (H : List ABox) : AC Tryd.prog 57 [.rd (.int .i64) (xs), .fn 58 []] H (fun r H' => r = .v (.bool (!decide (RowG xs))) ∧ H' = H) := by
  refine AC.enter envOk Tryd.func57 rfl (by decide) Tryd.ntmps57 Tryd.results57 (by simp) fun hB => ?_
  repeat' (first | (with_reducible first | refine AW.sreg envOk fun K hK => ?_ | refine AW.region envOk fun K hK => ?_ | refine vcL_nil ?_) | (with_reducible (first | refine vcL_cons fun K' hK' => ?_); simp only [isC, Bool.false_or, Bool.or_true, ↓reduceDIte, List.take_length, Nat.le_refl, List.drop_zero, vGuard, undef, Bool.not_eq_eq_eq_not, dstOk, vcOp, vcF, isPure, putS, vcCall, St.ev, St.put, lk, AVal.ofVal, initS, Nat.reduceLT, true_and, and_true, vBin, vPart, vLoad, AVal.flat, AVal.cell, cellsOk, setRange, ETy.enc, ETy.dec, ETy.sz, ETy.d, cond, Nat.reduceBEq, Nat.reduceAdd, Int.toNat_natCast, List.length_set, List.length_append, List.length_replicate, List.length_take, Nat.reduceSub, Nat.reduceEqDiff, get_loc, setBox_loc, next_eq, List.length_cons, List.length_nil, List.map_cons, List.map_nil, List.append_nil, List.nil_append, List.cons_append, List.set_cons_zero, List.set_cons_succ, getD_zero, getD_succ, List.getElem?_cons_succ, List.getElem?_cons_zero, List.take_succ_cons, List.take_zero, List.drop_succ_cons, List.all_cons, List.all_nil, Bool.and_true, Bool.true_and, Option.bind_some, Option.map_some, Option.map_none, decide_eq_true_eq, decide_eq_false_iff_not, ne_eq, Bool.not_eq_true, Bool.not_eq_false, Decidable.not_not, not_true_eq_false, not_false_eq_true, forall_const, false_implies, Bool.true_eq_false, Bool.false_eq_true, reduceCtorEq, decide_true, decide_false, Bool.not_true, Bool.not_false, if_true, if_false, Nat.zero_add, Nat.lt_irrefl, Value.oneCell', gt_iff_lt, Nat.reduceLeDiff, Nat.lt_add_one, vvar_3, vzero_3, vknd_3, vsn_3, vvar_4, vzero_4, vknd_4, vsn_4, vsl_24, vkn_24, vvar_24, vzero_24, vvar_72, vzero_72]; try simp (disch := omega) only [wrap64]) | (with_reducible refine hK' _ ?_; clear hK' K') | (with_reducible refine hK _ ?_; clear hK K) | (with_reducible first | refine vCall_ex (idx91_ac xs hx _) (fun n hn => ?_) | refine And.intro (And.intro rfl rfl) ?_ | refine And.intro (by omega) ?_) | (with_reducible refine And.intro (fun hg => ?_) (fun hg => ?_) <;> first | simp only [eq_false hg, rsB] | simp only [eq_true hg, rsB] | simp only [hg, rsB]) | (with_reducible first | refine And.intro rfl (And.intro rfl rfl) | refine thenQ_n ?_ | refine thenQ_exit ?_ | refine thenQ_ret ?_ | refine midQ_ret ?_ | refine midQ_exit ?_ | refine blockQ_same ?_ | refine blockQ_ne (by decide) ?_ | refine blockQ_ret ?_ | refine blockQ_n ?_ | refine AW.exit ?_ | refine AW.block ?_ | refine AW.cond_t rfl ?_ | refine AW.cond_f rfl ?_ | refine AW.cond_dec rfl (fun hc => ?_) (fun hc => ?_)) | (with_reducible refine AW.cond rfl (fun hc => ?_) (fun hc => ?_) <;> try simp only [Bool.not_eq_eq_eq_not, Bool.not_true, Bool.not_false, decide_eq_true_eq, decide_eq_false_iff_not] at hc) | (with_reducible first | refine AW.seq ?_ | refine AW.skip ?_ | refine AW.ret ?_ | refine And.intro ?_ ?_) | (with_reducible intro hg; first | simp only [eq_false hg, rsB] | simp only [eq_true hg, rsB]) | (with_reducible refine retQ_drop ?_; simp only [vRes, packRes, vLoad, vPart, lk, cond, Nat.reduceBEq, get_loc, getD_zero, getD_succ, true_and, List.length_cons, List.length_nil, Nat.reduceAdd, Nat.reduceLT, Nat.reduceLeDiff, List.take_succ_cons, List.take_zero, List.drop_succ_cons, List.drop_zero, vvar_3, vzero_3, vknd_3, vsn_3, vvar_4, vzero_4, vknd_4, vsn_4, vsl_24, vkn_24, vvar_24, vzero_24, vvar_72, vzero_72]) )
  refine ⟨_, _, FinOk.drop hB (Pl.ids (by (repeat' (first | exact Pl.v _ | exact Pl.junk | exact Pl.rd rfl _ | exact pl_nil | refine pl_cons ?_ ?_ | refine Pl.agg ?_ | refine Pl.tup ?_ | refine Pl.rp ?_ | refine Pl.fn ?_)); (first | done | fail))), ?_, rfl⟩
  by_cases h : RowG xs
  · rw [decide_eq_true h, decide_eq_false (fun h' => hn.1 h' h)]; rfl
  · rw [decide_eq_false h, decide_eq_true (hn.2 h)]; rfl
theorem is76_ac (m : Mz) (hm : Fits 1048576 m) (H : List ABox) : AC Tryd.prog 44 [.agg [.rd (.sli .i64) (m)]] H (fun r H' => r = .v (.bool (decide (MzOk m))) ∧ H' = H) := by
  obtain ⟨hm1, hm2⟩ := hm
  have h0 := hm2 0
  refine AC.enter envOk Tryd.func44 rfl (by decide) Tryd.ntmps44 Tryd.results44 (by simp) fun hB => ?_
  repeat' (first | (with_reducible first | refine AW.sreg envOk fun K hK => ?_ | refine AW.region envOk fun K hK => ?_ | refine vcL_nil ?_) | (with_reducible (first | refine vcL_cons fun K' hK' => ?_); simp only [isC, Bool.false_or, Bool.or_true, ↓reduceDIte, List.take_length, Nat.le_refl, List.drop_zero, vGuard, undef, Bool.not_eq_eq_eq_not, dstOk, vcOp, vcF, isPure, putS, vcCall, St.ev, St.put, lk, AVal.ofVal, initS, Nat.reduceLT, true_and, and_true, vBin, vUn, vPick, vPart, vLoad, vIdxA, vFldA, vLen, vBox, partsA, fillA, decAll, AVal.flat, AVal.cell, cellsOk, setRange, ETy.enc, ETy.dec, ETy.sz, ETy.d, cond, Nat.reduceBEq, Nat.reduceAdd, Int.toNat_natCast, List.length_set, List.length_append, List.length_replicate, List.length_take, Nat.reduceSub, Nat.reduceEqDiff, get_loc, setBox_loc, next_eq, List.length_cons, List.length_nil, List.map_cons, List.map_nil, List.append_nil, List.nil_append, List.cons_append, List.set_cons_zero, List.set_cons_succ, getD_zero, getD_succ, List.getElem?_cons_succ, List.getElem?_cons_zero, List.take_succ_cons, List.take_zero, List.drop_succ_cons, List.all_cons, List.all_nil, Bool.and_true, Bool.true_and, Option.bind_some, Option.map_some, Option.map_none, decide_eq_true_eq, decide_eq_false_iff_not, ne_eq, Bool.not_eq_true, Bool.not_eq_false, Decidable.not_not, not_true_eq_false, not_false_eq_true, forall_const, false_implies, Bool.true_eq_false, Bool.false_eq_true, reduceCtorEq, decide_true, decide_false, Bool.not_true, Bool.not_false, if_true, if_false, Nat.zero_add, Nat.lt_irrefl, Value.oneCell', gt_iff_lt, Nat.reduceLeDiff, Nat.lt_add_one, vvar_3, vzero_3, vknd_3, vsn_3, vvar_4, vzero_4, vknd_4, vsn_4, vsl_24, vkn_24, vvar_24, vzero_24, vsl_41, vkn_41, vvar_41, vzero_41, vvar_43, vzero_43, vbld_43, vfld_43_0, Int.toNat_zero, Int.reduceToNat]; try simp (disch := omega) only [wrap64]) | (with_reducible refine hK' _ ?_; clear hK' K') | (with_reducible refine hK _ ?_; clear hK K) | (with_reducible first | refine vCall_pure (in51_ac _ _ _ _) ?_ | refine And.intro (And.intro rfl rfl) ?_ | refine And.intro (by omega) ?_) | (with_reducible refine And.intro (fun hg => ?_) (fun hg => ?_) <;> first | simp only [eq_false hg, rsB] | simp only [eq_true hg, rsB] | simp only [hg, rsB]) | (with_reducible first | refine And.intro rfl (And.intro rfl rfl) | refine thenQ_n ?_ | refine thenQ_exit ?_ | refine thenQ_ret ?_ | refine midQ_ret ?_ | refine midQ_exit ?_ | refine blockQ_same ?_ | refine blockQ_ne (by decide) ?_ | refine blockQ_ret ?_ | refine blockQ_n ?_ | refine AW.exit ?_ | refine AW.block ?_ | refine AW.cond_t rfl ?_ | refine AW.cond_f rfl ?_ | refine AW.cond_dec rfl (fun hc => ?_) (fun hc => ?_)) | (with_reducible refine AW.cond rfl (fun hc => ?_) (fun hc => ?_) <;> try simp only [Bool.not_eq_eq_eq_not, Bool.not_true, Bool.not_false, decide_eq_true_eq, decide_eq_false_iff_not] at hc) | (with_reducible first | refine AW.seq ?_ | refine AW.skip ?_ | refine AW.ret ?_ | refine And.intro ?_ ?_) | (with_reducible intro hg; first | simp only [eq_false hg, rsB] | simp only [eq_true hg, rsB]) | (with_reducible refine retQ_drop ?_; simp only [vRes, packRes, vLoad, vPart, lk, cond, Nat.reduceBEq, get_loc, getD_zero, getD_succ, true_and, List.length_cons, List.length_nil, Nat.reduceAdd, Nat.reduceLT, Nat.reduceLeDiff, List.take_succ_cons, List.take_zero, List.drop_succ_cons, List.drop_zero, vvar_3, vzero_3, vknd_3, vsn_3, vvar_4, vzero_4, vknd_4, vsn_4, vsl_24, vkn_24, vvar_24, vzero_24, vsl_41, vkn_41, vvar_41, vzero_41, vvar_43, vzero_43, vbld_43, vfld_43_0]) )
  all_goals first
    | (refine ⟨_, _, FinOk.drop hB (Pl.ids (by (repeat' (first | exact Pl.v _ | exact Pl.junk | exact Pl.rd rfl _ | exact pl_nil | refine pl_cons ?_ ?_ | refine Pl.agg ?_ | refine Pl.tup ?_ | refine Pl.rp ?_ | refine Pl.fn ?_)); (first | done | fail))), ?_, rfl⟩
       refine v_bool ?_
       simp only [Bool.false_eq_true, false_iff]
       intro h; have h1 := h.1; have h2 := h.2.1; unfold width at h2; omega)
    | skip
  refine AW.loop (fun y : Nat => (⟨39, [(1, .ptr 1 (H.length + 0) 0 0), (20, .rd (.sli .i64) (m)), (21, .v (.int .i64 ((m.length : Int)))), (22, .v (.int .i64 ((y : Int))))], H, [.box false [.rd (.sli .i64) (m)]]⟩ : St)) (fun y => y ≤ m.length ∧ ∀ j, j < y → RowIs (width m) (m.getD j [])) (fun y => m.length - y) 0 ⟨Nat.zero_le _, fun j h => absurd h (by omega)⟩ (Weak.slots (by repeat' first | exact trivial | exact ⟨rfl, trivial⟩ | refine ⟨rfl, ?_⟩)) ?_
  intro y ⟨hy, hY⟩
  have hl := hm2 y
  repeat' (first | (with_reducible first | refine AW.sreg envOk fun K hK => ?_ | refine AW.region envOk fun K hK => ?_ | refine vcL_nil ?_) | (with_reducible (first | refine vcL_cons fun K' hK' => ?_); simp only [isC, Bool.false_or, Bool.or_true, ↓reduceDIte, List.take_length, Nat.le_refl, List.drop_zero, vGuard, undef, Bool.not_eq_eq_eq_not, dstOk, vcOp, vcF, isPure, putS, vcCall, St.ev, St.put, lk, AVal.ofVal, initS, Nat.reduceLT, true_and, and_true, vBin, vUn, vPick, vPart, vLoad, vIdxA, vFldA, vLen, vBox, partsA, fillA, decAll, AVal.flat, AVal.cell, cellsOk, setRange, ETy.enc, ETy.dec, ETy.sz, ETy.d, cond, Nat.reduceBEq, Nat.reduceAdd, Int.toNat_natCast, List.length_set, List.length_append, List.length_replicate, List.length_take, Nat.reduceSub, Nat.reduceEqDiff, get_loc, setBox_loc, next_eq, List.length_cons, List.length_nil, List.map_cons, List.map_nil, List.append_nil, List.nil_append, List.cons_append, List.set_cons_zero, List.set_cons_succ, getD_zero, getD_succ, List.getElem?_cons_succ, List.getElem?_cons_zero, List.take_succ_cons, List.take_zero, List.drop_succ_cons, List.all_cons, List.all_nil, Bool.and_true, Bool.true_and, Option.bind_some, Option.map_some, Option.map_none, decide_eq_true_eq, decide_eq_false_iff_not, ne_eq, Bool.not_eq_true, Bool.not_eq_false, Decidable.not_not, not_true_eq_false, not_false_eq_true, forall_const, false_implies, Bool.true_eq_false, Bool.false_eq_true, reduceCtorEq, decide_true, decide_false, Bool.not_true, Bool.not_false, if_true, if_false, Nat.zero_add, Nat.lt_irrefl, Value.oneCell', gt_iff_lt, Nat.reduceLeDiff, Nat.lt_add_one, vvar_3, vzero_3, vknd_3, vsn_3, vvar_4, vzero_4, vknd_4, vsn_4, vsl_24, vkn_24, vvar_24, vzero_24, vsl_41, vkn_41, vvar_41, vzero_41, vvar_43, vzero_43, vbld_43, vfld_43_0, Int.toNat_zero, Int.reduceToNat]; try simp (disch := omega) only [wrap64]) | (with_reducible refine hK' _ ?_; clear hK' K') | (with_reducible refine hK _ ?_; clear hK K) | (with_reducible first | refine vCall_pure (in51_ac _ _ _ _) ?_ | refine vCall_pure (cont59m_ac _ (by omega) _) ?_ | refine And.intro (And.intro rfl rfl) ?_ | refine And.intro (by omega) ?_) | (with_reducible refine And.intro (fun hg => ?_) (fun hg => ?_) <;> first | simp only [eq_false hg, rsB] | simp only [eq_true hg, rsB] | simp only [hg, rsB]) | (with_reducible first | refine And.intro rfl (And.intro rfl rfl) | refine thenQ_n ?_ | refine thenQ_exit ?_ | refine thenQ_ret ?_ | refine midQ_ret ?_ | refine midQ_exit ?_ | refine blockQ_same ?_ | refine blockQ_ne (by decide) ?_ | refine blockQ_ret ?_ | refine blockQ_n ?_ | refine AW.exit ?_ | refine AW.block ?_ | refine AW.cond_t rfl ?_ | refine AW.cond_f rfl ?_ | refine AW.cond_dec rfl (fun hc => ?_) (fun hc => ?_)) | (with_reducible refine AW.cond rfl (fun hc => ?_) (fun hc => ?_) <;> try simp only [Bool.not_eq_eq_eq_not, Bool.not_true, Bool.not_false, decide_eq_true_eq, decide_eq_false_iff_not] at hc) | (with_reducible first | refine AW.seq ?_ | refine AW.skip ?_ | refine AW.ret ?_ | refine And.intro ?_ ?_) | (with_reducible intro hg; first | simp only [eq_false hg, rsB] | simp only [eq_true hg, rsB]) | (with_reducible refine retQ_drop ?_; simp only [vRes, packRes, vLoad, vPart, lk, cond, Nat.reduceBEq, get_loc, getD_zero, getD_succ, true_and, List.length_cons, List.length_nil, Nat.reduceAdd, Nat.reduceLT, Nat.reduceLeDiff, List.take_succ_cons, List.take_zero, List.drop_succ_cons, List.drop_zero, vvar_3, vzero_3, vknd_3, vsn_3, vvar_4, vzero_4, vknd_4, vsn_4, vsl_24, vkn_24, vvar_24, vzero_24, vsl_41, vkn_41, vvar_41, vzero_41, vvar_43, vzero_43, vbld_43, vfld_43_0]) )
  all_goals first
    | (refine ⟨_, _, FinOk.drop hB (Pl.ids (by (repeat' (first | exact Pl.v _ | exact Pl.junk | exact Pl.rd rfl _ | exact pl_nil | refine pl_cons ?_ ?_ | refine Pl.agg ?_ | refine Pl.tup ?_ | refine Pl.rp ?_ | refine Pl.fn ?_)); (first | done | fail))), ?_, rfl⟩
       refine v_bool ?_
       simp only [Bool.false_eq_true, false_iff]
       intro h
       have h1 := h.2.2 y (by omega)
       have h2 := h1.1
       unfold width at h2
       first | omega | exact absurd h1.2 (by assumption))
    | (refine ⟨y + 1, ⟨by omega, fun j hj => ?_⟩, by omega, (Weak.slots (by repeat' first | exact trivial | exact ⟨rfl, trivial⟩ | refine ⟨rfl, ?_⟩))⟩
       by_cases e : j = y
       · subst e
         refine ⟨by unfold width; omega, by assumption⟩
       · exact hY j (by omega))
    | (refine ⟨_, _, FinOk.drop hB (Pl.ids (by (repeat' (first | exact Pl.v _ | exact Pl.junk | exact Pl.rd rfl _ | exact pl_nil | refine pl_cons ?_ ?_ | refine Pl.agg ?_ | refine Pl.tup ?_ | refine Pl.rp ?_ | refine Pl.fn ?_)); (first | done | fail))), ?_, rfl⟩
       refine v_bool ?_
       simp only [true_iff]
       exact ⟨by omega, by unfold width; omega, fun j hj => hY j (by omega)⟩)
end Go.Proofs.YtmkcahfhnehanaaDoor
end
section
set_option linter.unusedSimpArgs false
set_option linter.unusedVariables false
set_option maxHeartbeats 1000000
namespace Go.Proofs.YtmkcahfhnehanaaDoor
open Go.Lib Go.Eng
/-- Texts of the first y rows. -/
def strsM (m : Mz) (y : Nat) : List ByteArray := (rowsB m y).map fun l => ⟨l.toArray⟩
theorem strsM_len {m : Mz} {y : Nat} (h : y ≤ m.length) : (strsM m y).length = y := by simp [strsM, rowsB]; omega
theorem strsM_succ {m : Mz} {y : Nat} (h : y < m.length) : strsM m (y + 1) = strsM m y ++ [⟨(rowB (m.getD y []) (m.getD y []).length).toArray⟩] := by
  unfold strsM
  rw [rowsB_succ h, List.map_append]; rfl
theorem strsM_join (m : Mz) (y : Nat) : Lib.join ((strsM m y).map (·.data.toList)) [47] = mzTo m y := by
  unfold strsM mzTo
  rw [List.map_map]
  congr 1
  conv => rhs; rw [← List.map_id (rowsB m y)]
  rfl
theorem impl37_ac (m : Mz) (hm : Fits 1048576 m) (T : TypeId) (fr : Nat × Nat) {H : List ABox} {k : Nat} (hk : H[k]? = some (.tab 1 (.cells powCells T fr))) :
    AC Tryd.prog 22 [.agg [.rd (.sli .i64) (m)]] H (fun r H' => r = .tup [.v (.string (@ite _ (MzOk m) (Classical.propDecidable _) ⟨(mzB m).toArray⟩ ⟨#[]⟩)), .v (.bool (decide (MzOk m)))] ∧ H' = H) := by
  by_cases hok : MzOk m
  · have hd : decide (MzOk m) = true := decide_eq_true hok
    have hh := hok.1
    rw [if_pos hok, hd]
    refine AC.enter envOk Tryd.func22 rfl (by decide) Tryd.ntmps22 Tryd.results22 (by simp) fun hB => ?_
    repeat' (first | (with_reducible first | refine AW.sreg envOk fun K hK => ?_ | refine AW.region envOk fun K hK => ?_ | refine vcL_nil ?_) | (with_reducible (first | refine vcL_cons fun K' hK' => ?_); simp only [isC, Bool.false_or, Bool.or_true, vAppend, elems, ↓reduceDIte, List.take_length, Nat.le_refl, List.drop_zero, vGuard, undef, Bool.not_eq_eq_eq_not, dstOk, vcOp, vcF, isPure, putS, vcCall, St.ev, St.put, lk, AVal.ofVal, initS, Nat.reduceLT, true_and, and_true, vBin, vUn, vPart, vLoad, vIdxA, vFldA, vLen, vBox, vBuildSl, partsA, fillA, decAll, AVal.flat, AVal.cell, cellsOk, setRange, ETy.enc, ETy.dec, ETy.sz, ETy.d, cond, Nat.reduceBEq, Nat.reduceAdd, Int.toNat_natCast, List.length_set, List.length_append, List.length_replicate, List.length_take, Nat.reduceSub, Nat.reduceEqDiff, get_loc, setBox_loc, next_eq, List.length_cons, List.length_nil, List.map_cons, List.map_nil, List.append_nil, List.nil_append, List.cons_append, List.set_cons_zero, List.set_cons_succ, getD_zero, getD_succ, List.getElem?_cons_succ, List.getElem?_cons_zero, List.take_succ_cons, List.take_zero, List.drop_succ_cons, List.all_cons, List.all_nil, Bool.and_true, Bool.true_and, Option.bind_some, Option.map_some, Option.map_none, decide_eq_true_eq, decide_eq_false_iff_not, ne_eq, Bool.not_eq_true, Bool.not_eq_false, Decidable.not_not, not_true_eq_false, not_false_eq_true, forall_const, false_implies, Bool.true_eq_false, Bool.false_eq_true, reduceCtorEq, decide_true, decide_false, Bool.not_true, Bool.not_false, if_true, if_false, Nat.zero_add, Nat.lt_irrefl, Value.oneCell', gt_iff_lt, Nat.reduceLeDiff, Nat.lt_add_one, vSealSl, vvar_1, vzero_1, vvar_2, vzero_2, vknd_2, vsn_2, vvar_3, vzero_3, vknd_3, vsn_3, vvar_4, vzero_4, vknd_4, vsn_4, vvar_9, vzero_9, vknd_9, vsn_9, vsl_24, vkn_24, vvar_24, vzero_24, vsl_41, vkn_41, vvar_41, vzero_41, vvar_43, vzero_43, vbld_43, vsl_81, vkn_81, vvar_81, vzero_81, vfld_43_0, hd]; try simp (disch := omega) only [wrap64]) | (with_reducible refine hK' _ ?_; clear hK' K') | (with_reducible refine hK _ ?_; clear hK K) | ((with_reducible show vCall _ (AVal.fn 44 _) _ _ _); refine vCall_pure (is76_ac m hm _) ?_) | (with_reducible first | refine And.intro (And.intro rfl rfl) ?_ | refine And.intro (by omega) ?_) | (with_reducible refine And.intro (fun hg => ?_) (fun hg => ?_) <;> first | simp only [eq_false hg, rsB] | simp only [eq_true hg, rsB] | simp only [hg, rsB]) | (with_reducible first | refine And.intro rfl (And.intro rfl rfl) | refine thenQ_n ?_ | refine thenQ_exit ?_ | refine thenQ_ret ?_ | refine midQ_ret ?_ | refine midQ_exit ?_ | refine blockQ_same ?_ | refine blockQ_ne (by decide) ?_ | refine blockQ_ret ?_ | refine blockQ_n ?_ | refine AW.exit ?_ | refine AW.block ?_ | refine AW.cond_t rfl ?_ | refine AW.cond_f rfl ?_ | refine AW.cond_dec rfl (fun hc => ?_) (fun hc => ?_)) | (with_reducible refine AW.cond rfl (fun hc => ?_) (fun hc => ?_) <;> try simp only [Bool.not_eq_eq_eq_not, Bool.not_true, Bool.not_false, decide_eq_true_eq, decide_eq_false_iff_not] at hc) | (with_reducible first | refine AW.seq ?_ | refine AW.skip ?_ | refine AW.ret ?_ | refine And.intro ?_ ?_) | (with_reducible intro hg; first | simp only [eq_false hg, rsB] | simp only [eq_true hg, rsB]) | (with_reducible refine retQ_drop ?_; simp only [vRes, packRes, vLoad, vPart, lk, cond, Nat.reduceBEq, get_loc, getD_zero, getD_succ, true_and, List.length_cons, List.length_nil, Nat.reduceAdd, Nat.reduceLT, Nat.reduceLeDiff, List.take_succ_cons, List.take_zero, List.drop_succ_cons, List.drop_zero, vvar_1, vzero_1, vvar_2, vzero_2, vknd_2, vsn_2, vvar_3, vzero_3, vknd_3, vsn_3, vvar_4, vzero_4, vknd_4, vsn_4, vvar_9, vzero_9, vknd_9, vsn_9, vsl_24, vkn_24, vvar_24, vzero_24, vsl_41, vkn_41, vvar_41, vzero_41, vvar_43, vzero_43, vbld_43, vsl_81, vkn_81, vvar_81, vzero_81, vfld_43_0]) )
    refine AW.loop (fun y : Nat => (⟨43, [(4, .sl 1 (H.length + 1) 0 (y)), (15, .rd (.sli .i64) (m)), (16, .v (.int .i64 ((m.length : Int)))), (17, .v (.int .i64 ((y : Int))))], H, [.box false [.rd (.sli .i64) (m)], .row false .str (strsM m y)]⟩ : St)) (fun y => y ≤ m.length) (fun y => m.length - y) 0 (Nat.zero_le _) (Weak.slots (by repeat' first | exact trivial | exact ⟨rfl, trivial⟩ | refine ⟨rfl, ?_⟩)) ?_
    intro y hy
    have hsl := strsM_len hy
    have htk : (strsM m y).take y = strsM m y := List.take_of_length_le (by omega)
    by_cases hlt : y < m.length
    · have hrow := hok.row hlt
      repeat' (first | (with_reducible first | refine AW.sreg envOk fun K hK => ?_ | refine AW.region envOk fun K hK => ?_ | refine vcL_nil ?_) | (with_reducible (first | refine vcL_cons fun K' hK' => ?_); simp only [isC, Bool.false_or, Bool.or_true, vAppend, elems, ↓reduceDIte, List.take_length, Nat.le_refl, List.drop_zero, vGuard, undef, Bool.not_eq_eq_eq_not, dstOk, vcOp, vcF, isPure, putS, vcCall, St.ev, St.put, lk, AVal.ofVal, initS, Nat.reduceLT, true_and, and_true, vBin, vUn, vPart, vLoad, vIdxA, vFldA, vLen, vBox, vBuildSl, partsA, fillA, decAll, AVal.flat, AVal.cell, cellsOk, setRange, ETy.enc, ETy.dec, ETy.sz, ETy.d, cond, Nat.reduceBEq, Nat.reduceAdd, Int.toNat_natCast, List.length_set, List.length_append, List.length_replicate, List.length_take, Nat.reduceSub, Nat.reduceEqDiff, get_loc, setBox_loc, next_eq, List.length_cons, List.length_nil, List.map_cons, List.map_nil, List.append_nil, List.nil_append, List.cons_append, List.set_cons_zero, List.set_cons_succ, getD_zero, getD_succ, List.getElem?_cons_succ, List.getElem?_cons_zero, List.take_succ_cons, List.take_zero, List.drop_succ_cons, List.all_cons, List.all_nil, Bool.and_true, Bool.true_and, Option.bind_some, Option.map_some, Option.map_none, decide_eq_true_eq, decide_eq_false_iff_not, ne_eq, Bool.not_eq_true, Bool.not_eq_false, Decidable.not_not, not_true_eq_false, not_false_eq_true, forall_const, false_implies, Bool.true_eq_false, Bool.false_eq_true, reduceCtorEq, decide_true, decide_false, Bool.not_true, Bool.not_false, if_true, if_false, Nat.zero_add, Nat.lt_irrefl, Value.oneCell', gt_iff_lt, Nat.reduceLeDiff, Nat.lt_add_one, vSealSl, vvar_1, vzero_1, vvar_2, vzero_2, vknd_2, vsn_2, vvar_3, vzero_3, vknd_3, vsn_3, vvar_4, vzero_4, vknd_4, vsn_4, vvar_9, vzero_9, vknd_9, vsn_9, vsl_24, vkn_24, vvar_24, vzero_24, vsl_41, vkn_41, vvar_41, vzero_41, vvar_43, vzero_43, vbld_43, vsl_81, vkn_81, vvar_81, vzero_81, vfld_43_0, hsl, htk]; try simp (disch := omega) only [wrap64]) | (with_reducible refine hK' _ ?_; clear hK' K') | (with_reducible refine hK _ ?_; clear hK K) | (with_reducible first | refine And.intro (And.intro rfl rfl) ?_ | refine And.intro (by omega) ?_) | (with_reducible refine And.intro (fun hg => ?_) (fun hg => ?_) <;> first | simp only [eq_false hg, rsB] | simp only [eq_true hg, rsB] | simp only [hg, rsB]) | (with_reducible first | refine And.intro rfl (And.intro rfl rfl) | refine thenQ_n ?_ | refine thenQ_exit ?_ | refine thenQ_ret ?_ | refine midQ_ret ?_ | refine midQ_exit ?_ | refine blockQ_same ?_ | refine blockQ_ne (by decide) ?_ | refine blockQ_ret ?_ | refine blockQ_n ?_ | refine AW.exit ?_ | refine AW.block ?_ | refine AW.cond_t rfl ?_ | refine AW.cond_f rfl ?_ | refine AW.cond_dec rfl (fun hc => ?_) (fun hc => ?_)) | (with_reducible refine AW.cond rfl (fun hc => ?_) (fun hc => ?_) <;> try simp only [Bool.not_eq_eq_eq_not, Bool.not_true, Bool.not_false, decide_eq_true_eq, decide_eq_false_iff_not] at hc) | (with_reducible first | refine AW.seq ?_ | refine AW.skip ?_ | refine AW.ret ?_ | refine And.intro ?_ ?_) | (with_reducible intro hg; first | simp only [eq_false hg, rsB] | simp only [eq_true hg, rsB]) | (with_reducible refine retQ_drop ?_; simp only [vRes, packRes, vLoad, vPart, lk, cond, Nat.reduceBEq, get_loc, getD_zero, getD_succ, true_and, List.length_cons, List.length_nil, Nat.reduceAdd, Nat.reduceLT, Nat.reduceLeDiff, List.take_succ_cons, List.take_zero, List.drop_succ_cons, List.drop_zero, vvar_1, vzero_1, vvar_2, vzero_2, vknd_2, vsn_2, vvar_3, vzero_3, vknd_3, vsn_3, vvar_4, vzero_4, vknd_4, vsn_4, vvar_9, vzero_9, vknd_9, vsn_9, vsl_24, vkn_24, vvar_24, vzero_24, vsl_41, vkn_41, vvar_41, vzero_41, vvar_43, vzero_43, vbld_43, vsl_81, vkn_81, vvar_81, vzero_81, vfld_43_0]) )
      all_goals first
        | (exfalso; omega)
        | skip
      refine AW.loop (fun x : Nat => (⟨43, [(4, .sl 1 (H.length + 1) 0 (y)), (15, .rd (.sli .i64) (m)), (16, .v (.int .i64 ((m.length : Int)))), (17, .v (.int .i64 ((y : Int)))), (7, .v (.string (⟨(rowB (m.getD y []) x).toArray⟩))), (21, .rd (.int .i64) ((m.getD y []))), (22, .v (.int .i64 (((m.getD y []).length : Int)))), (23, .v (.int .i64 ((x : Int))))], H, [.box false [.rd (.sli .i64) (m)], .row false .str (strsM m y)]⟩ : St)) (fun x => x ≤ (m.getD y []).length) (fun x => (m.getD y []).length - x) 0 (Nat.zero_le _) ?_ ?_
      · rw [rowB_zero]
        exact (Weak.slots (by repeat' first | exact trivial | exact ⟨rfl, trivial⟩ | refine ⟨rfl, ?_⟩))
      intro x hx
      have hrl := rowB_len hx
      by_cases hlx : x < (m.getD y []).length
      · have hcell := hrow.2 x hlx
        have hil := itoa_len (n := (m.getD y []).getD x 0) (by omega)
        repeat' (first | (with_reducible first | refine AW.sreg envOk fun K hK => ?_ | refine AW.region envOk fun K hK => ?_ | refine vcL_nil ?_) | (with_reducible (first | refine vcL_cons fun K' hK' => ?_); simp only [isC, Bool.false_or, Bool.or_true, vAppend, elems, ↓reduceDIte, List.take_length, Nat.le_refl, List.drop_zero, vGuard, undef, Bool.not_eq_eq_eq_not, dstOk, vcOp, vcF, isPure, putS, vcCall, St.ev, St.put, lk, AVal.ofVal, initS, Nat.reduceLT, true_and, and_true, vBin, vUn, vPart, vLoad, vIdxA, vFldA, vLen, vBox, vBuildSl, partsA, fillA, decAll, AVal.flat, AVal.cell, cellsOk, setRange, ETy.enc, ETy.dec, ETy.sz, ETy.d, cond, Nat.reduceBEq, Nat.reduceAdd, Int.toNat_natCast, List.length_set, List.length_append, List.length_replicate, List.length_take, Nat.reduceSub, Nat.reduceEqDiff, get_loc, setBox_loc, next_eq, List.length_cons, List.length_nil, List.map_cons, List.map_nil, List.append_nil, List.nil_append, List.cons_append, List.set_cons_zero, List.set_cons_succ, getD_zero, getD_succ, List.getElem?_cons_succ, List.getElem?_cons_zero, List.take_succ_cons, List.take_zero, List.drop_succ_cons, List.all_cons, List.all_nil, Bool.and_true, Bool.true_and, Option.bind_some, Option.map_some, Option.map_none, decide_eq_true_eq, decide_eq_false_iff_not, ne_eq, Bool.not_eq_true, Bool.not_eq_false, Decidable.not_not, not_true_eq_false, not_false_eq_true, forall_const, false_implies, Bool.true_eq_false, Bool.false_eq_true, reduceCtorEq, decide_true, decide_false, Bool.not_true, Bool.not_false, if_true, if_false, Nat.zero_add, Nat.lt_irrefl, Value.oneCell', gt_iff_lt, Nat.reduceLeDiff, Nat.lt_add_one, vSealSl, vvar_1, vzero_1, vvar_2, vzero_2, vknd_2, vsn_2, vvar_3, vzero_3, vknd_3, vsn_3, vvar_4, vzero_4, vknd_4, vsn_4, vvar_9, vzero_9, vknd_9, vsn_9, vsl_24, vkn_24, vvar_24, vzero_24, vsl_41, vkn_41, vvar_41, vzero_41, vvar_43, vzero_43, vbld_43, vsl_81, vkn_81, vvar_81, vzero_81, vfld_43_0, bsz, bapp]; try simp (disch := omega) only [wrap64]) | (with_reducible refine hK' _ ?_; clear hK' K') | (with_reducible refine hK _ ?_; clear hK K) | ((with_reducible show vCall _ (AVal.fn 45 _) _ _ _); refine vCall_pure (dec14_ac _ (by omega) T fr (getT hk)) ?_) | (with_reducible first | refine And.intro (And.intro rfl rfl) ?_ | refine And.intro (by omega) ?_) | (with_reducible refine And.intro (fun hg => ?_) (fun hg => ?_) <;> first | simp only [eq_false hg, rsB] | simp only [eq_true hg, rsB] | simp only [hg, rsB]) | (with_reducible first | refine And.intro rfl (And.intro rfl rfl) | refine thenQ_n ?_ | refine thenQ_exit ?_ | refine thenQ_ret ?_ | refine midQ_ret ?_ | refine midQ_exit ?_ | refine blockQ_same ?_ | refine blockQ_ne (by decide) ?_ | refine blockQ_ret ?_ | refine blockQ_n ?_ | refine AW.exit ?_ | refine AW.block ?_ | refine AW.cond_t rfl ?_ | refine AW.cond_f rfl ?_ | refine AW.cond_dec rfl (fun hc => ?_) (fun hc => ?_)) | (with_reducible refine AW.cond rfl (fun hc => ?_) (fun hc => ?_) <;> try simp only [Bool.not_eq_eq_eq_not, Bool.not_true, Bool.not_false, decide_eq_true_eq, decide_eq_false_iff_not] at hc) | (with_reducible first | refine AW.seq ?_ | refine AW.skip ?_ | refine AW.ret ?_ | refine And.intro ?_ ?_) | (with_reducible intro hg; first | simp only [eq_false hg, rsB] | simp only [eq_true hg, rsB]) | (with_reducible refine retQ_drop ?_; simp only [vRes, packRes, vLoad, vPart, lk, cond, Nat.reduceBEq, get_loc, getD_zero, getD_succ, true_and, List.length_cons, List.length_nil, Nat.reduceAdd, Nat.reduceLT, Nat.reduceLeDiff, List.take_succ_cons, List.take_zero, List.drop_succ_cons, List.drop_zero, vvar_1, vzero_1, vvar_2, vzero_2, vknd_2, vsn_2, vvar_3, vzero_3, vknd_3, vsn_3, vvar_4, vzero_4, vknd_4, vsn_4, vvar_9, vzero_9, vknd_9, vsn_9, vsl_24, vkn_24, vvar_24, vzero_24, vsl_41, vkn_41, vvar_41, vzero_41, vvar_43, vzero_43, vbld_43, vsl_81, vkn_81, vvar_81, vzero_81, vfld_43_0]) )
        all_goals first
          | (exfalso; omega)
          | (refine ⟨x + 1, by omega, by omega, ?_⟩
             rw [rowB_succ hlx]
             first
               | (rw [show cellB ((m.getD y []).getD x 0) = 35 by (rw [show (m.getD y []).getD x 0 = 0 by assumption]; rfl)]; exact (Weak.slots (by repeat' first | exact trivial | exact ⟨rfl, trivial⟩ | refine ⟨rfl, ?_⟩)))
               | (rw [← itoa_cell hcell (by assumption)]; exact (Weak.slots (by repeat' first | exact trivial | exact ⟨rfl, trivial⟩ | refine ⟨rfl, ?_⟩)))
               | fail)
          | fail
      · obtain rfl : x = (m.getD y []).length := by omega
        repeat' (first | (with_reducible first | refine AW.sreg envOk fun K hK => ?_ | refine AW.region envOk fun K hK => ?_ | refine vcL_nil ?_) | (with_reducible (first | refine vcL_cons fun K' hK' => ?_); simp only [isC, Bool.false_or, Bool.or_true, vAppend, elems, ↓reduceDIte, List.take_length, Nat.le_refl, List.drop_zero, vGuard, undef, Bool.not_eq_eq_eq_not, dstOk, vcOp, vcF, isPure, putS, vcCall, St.ev, St.put, lk, AVal.ofVal, initS, Nat.reduceLT, true_and, and_true, vBin, vUn, vPart, vLoad, vIdxA, vFldA, vLen, vBox, vBuildSl, partsA, fillA, decAll, AVal.flat, AVal.cell, cellsOk, setRange, ETy.enc, ETy.dec, ETy.sz, ETy.d, cond, Nat.reduceBEq, Nat.reduceAdd, Int.toNat_natCast, List.length_set, List.length_append, List.length_replicate, List.length_take, Nat.reduceSub, Nat.reduceEqDiff, get_loc, setBox_loc, next_eq, List.length_cons, List.length_nil, List.map_cons, List.map_nil, List.append_nil, List.nil_append, List.cons_append, List.set_cons_zero, List.set_cons_succ, getD_zero, getD_succ, List.getElem?_cons_succ, List.getElem?_cons_zero, List.take_succ_cons, List.take_zero, List.drop_succ_cons, List.all_cons, List.all_nil, Bool.and_true, Bool.true_and, Option.bind_some, Option.map_some, Option.map_none, decide_eq_true_eq, decide_eq_false_iff_not, ne_eq, Bool.not_eq_true, Bool.not_eq_false, Decidable.not_not, not_true_eq_false, not_false_eq_true, forall_const, false_implies, Bool.true_eq_false, Bool.false_eq_true, reduceCtorEq, decide_true, decide_false, Bool.not_true, Bool.not_false, if_true, if_false, Nat.zero_add, Nat.lt_irrefl, Value.oneCell', gt_iff_lt, Nat.reduceLeDiff, Nat.lt_add_one, vSealSl, vvar_1, vzero_1, vvar_2, vzero_2, vknd_2, vsn_2, vvar_3, vzero_3, vknd_3, vsn_3, vvar_4, vzero_4, vknd_4, vsn_4, vvar_9, vzero_9, vknd_9, vsn_9, vsl_24, vkn_24, vvar_24, vzero_24, vsl_41, vkn_41, vvar_41, vzero_41, vvar_43, vzero_43, vbld_43, vsl_81, vkn_81, vvar_81, vzero_81, vfld_43_0, hsl, htk]; try simp (disch := omega) only [wrap64]) | (with_reducible refine hK' _ ?_; clear hK' K') | (with_reducible refine hK _ ?_; clear hK K) | (with_reducible first | refine And.intro (And.intro rfl rfl) ?_ | refine And.intro (by omega) ?_) | (with_reducible refine And.intro (fun hg => ?_) (fun hg => ?_) <;> first | simp only [eq_false hg, rsB] | simp only [eq_true hg, rsB] | simp only [hg, rsB]) | (with_reducible first | refine And.intro rfl (And.intro rfl rfl) | refine thenQ_n ?_ | refine thenQ_exit ?_ | refine thenQ_ret ?_ | refine midQ_ret ?_ | refine midQ_exit ?_ | refine blockQ_same ?_ | refine blockQ_ne (by decide) ?_ | refine blockQ_ret ?_ | refine blockQ_n ?_ | refine AW.exit ?_ | refine AW.block ?_ | refine AW.cond_t rfl ?_ | refine AW.cond_f rfl ?_ | refine AW.cond_dec rfl (fun hc => ?_) (fun hc => ?_)) | (with_reducible refine AW.cond rfl (fun hc => ?_) (fun hc => ?_) <;> try simp only [Bool.not_eq_eq_eq_not, Bool.not_true, Bool.not_false, decide_eq_true_eq, decide_eq_false_iff_not] at hc) | (with_reducible first | refine AW.seq ?_ | refine AW.skip ?_ | refine AW.ret ?_ | refine And.intro ?_ ?_) | (with_reducible intro hg; first | simp only [eq_false hg, rsB] | simp only [eq_true hg, rsB]) | (with_reducible refine retQ_drop ?_; simp only [vRes, packRes, vLoad, vPart, lk, cond, Nat.reduceBEq, get_loc, getD_zero, getD_succ, true_and, List.length_cons, List.length_nil, Nat.reduceAdd, Nat.reduceLT, Nat.reduceLeDiff, List.take_succ_cons, List.take_zero, List.drop_succ_cons, List.drop_zero, vvar_1, vzero_1, vvar_2, vzero_2, vknd_2, vsn_2, vvar_3, vzero_3, vknd_3, vsn_3, vvar_4, vzero_4, vknd_4, vsn_4, vvar_9, vzero_9, vknd_9, vsn_9, vsl_24, vkn_24, vvar_24, vzero_24, vsl_41, vkn_41, vvar_41, vzero_41, vvar_43, vzero_43, vbld_43, vsl_81, vkn_81, vvar_81, vzero_81, vfld_43_0]) )
        all_goals first
          | (exfalso; omega)
          | (refine ⟨y + 1, by omega, by omega, ?_⟩
             rw [strsM_succ hlt]
             exact (Weak.sel [0, 3] hB (by decide) (by (repeat' (first | exact trivial | exact RenB.plRow rfl | exact RenB.dead _ | exact RenB.map _ _ | exact RenB.iter rfl | refine And.intro ?_ ?_ | (refine RenB.plBox ?_; (repeat' (first | exact Pl.v _ | exact Pl.junk | exact Pl.rd rfl _ | exact pl_nil | refine pl_cons ?_ ?_ | refine Pl.agg ?_ | refine Pl.tup ?_ | refine Pl.rp ?_ | refine Pl.fn ?_)); (first | done | fail)) | refine RenB.of ?_ | exact RenV.ptr rfl | exact RenV.sl rfl | exact RenV.mp rfl | exact RenV.it rfl | exact RenV.low (IdsLt.mp (by assumption)) | (refine RenV.pl ?_; (repeat' (first | exact Pl.v _ | exact Pl.junk | exact Pl.rd rfl _ | exact pl_nil | refine pl_cons ?_ ?_ | refine Pl.agg ?_ | refine Pl.tup ?_ | refine Pl.rp ?_ | refine Pl.fn ?_)); (first | done | fail)) | refine RenV.aggL ?_ | refine RenV.fnL ?_ | exact Nat.lt_of_sub_pos (by decide) | (simp; (first | done | fail)))); (first | done | fail)) (by (repeat' (first | exact trivial | exact RenV.ptr rfl | exact RenV.sl rfl | exact RenV.mp rfl | exact RenV.it rfl | exact RenV.low (IdsLt.mp (by assumption)) | exact RenV.low (.v _) | exact RenV.low (IdsLt.ptr (by assumption)) | (refine RenV.pl ?_; (repeat' (first | exact Pl.v _ | exact Pl.junk | exact Pl.rd rfl _ | exact pl_nil | refine pl_cons ?_ ?_ | refine Pl.agg ?_ | refine Pl.tup ?_ | refine Pl.rp ?_ | refine Pl.fn ?_)); (first | done | fail)) | refine RenV.fnL ?_ | refine RenV.aggL ?_ | refine And.intro ?_ ?_)); (first | done | fail))))
          | fail
    · obtain rfl : y = m.length := by omega
      have hj := strsM_join m m.length
      have hjl : (Lib.join ((strsM m m.length).map (·.data.toList)) [47]).length ≤ 140737488355328 := by
        rw [hj]
        have := mzTo_len hok m.length (Nat.le_refl _)
        omega
      have hs1 : 0 < (strsM m m.length).length := by omega
      have hs2 : (strsM m m.length).length ≤ 1000 := by omega
      have hss := hsl.symm
      repeat' (first | (with_reducible first | refine AW.sreg envOk fun K hK => ?_ | refine AW.region envOk fun K hK => ?_ | refine vcL_nil ?_) | (with_reducible (first | refine vcL_cons fun K' hK' => ?_); simp only [isC, Bool.false_or, Bool.or_true, vAppend, elems, ↓reduceDIte, List.take_length, Nat.le_refl, List.drop_zero, vGuard, undef, Bool.not_eq_eq_eq_not, dstOk, vcOp, vcF, isPure, putS, vcCall, St.ev, St.put, lk, AVal.ofVal, initS, Nat.reduceLT, true_and, and_true, vBin, vUn, vPart, vLoad, vIdxA, vFldA, vLen, vBox, vBuildSl, partsA, fillA, decAll, AVal.flat, AVal.cell, cellsOk, setRange, ETy.enc, ETy.dec, ETy.sz, ETy.d, cond, Nat.reduceBEq, Nat.reduceAdd, Int.toNat_natCast, List.length_set, List.length_append, List.length_replicate, List.length_take, Nat.reduceSub, Nat.reduceEqDiff, get_loc, setBox_loc, next_eq, List.length_cons, List.length_nil, List.map_cons, List.map_nil, List.append_nil, List.nil_append, List.cons_append, List.set_cons_zero, List.set_cons_succ, getD_zero, getD_succ, List.getElem?_cons_succ, List.getElem?_cons_zero, List.take_succ_cons, List.take_zero, List.drop_succ_cons, List.all_cons, List.all_nil, Bool.and_true, Bool.true_and, Option.bind_some, Option.map_some, Option.map_none, decide_eq_true_eq, decide_eq_false_iff_not, ne_eq, Bool.not_eq_true, Bool.not_eq_false, Decidable.not_not, not_true_eq_false, not_false_eq_true, forall_const, false_implies, Bool.true_eq_false, Bool.false_eq_true, reduceCtorEq, decide_true, decide_false, Bool.not_true, Bool.not_false, if_true, if_false, Nat.zero_add, Nat.lt_irrefl, Value.oneCell', gt_iff_lt, Nat.reduceLeDiff, Nat.lt_add_one, vSealSl, vvar_1, vzero_1, vvar_2, vzero_2, vknd_2, vsn_2, vvar_3, vzero_3, vknd_3, vsn_3, vvar_4, vzero_4, vknd_4, vsn_4, vvar_9, vzero_9, vknd_9, vsn_9, vsl_24, vkn_24, vvar_24, vzero_24, vsl_41, vkn_41, vvar_41, vzero_41, vvar_43, vzero_43, vbld_43, vsl_81, vkn_81, vvar_81, vzero_81, vfld_43_0, hsl, htk]; try simp (disch := omega) only [wrap64]) | (with_reducible refine hK' _ ?_; clear hK' K') | (with_reducible refine hK _ ?_; clear hK K) | ((with_reducible show vCall _ (AVal.fn 46 _) _ _ _); refine vCall_pure (AC.lent0 (by (repeat' (first | exact trivial | exact LentV.rowL rfl rfl rfl | exact LentV.rowL rfl rfl (by assumption) | refine LentV.boxL rfl ?_ | exact LentV.nil _ | exact LentV.same _ | refine LentV.aggL ?_ | refine And.intro ?_ ?_)); (first | done | fail)) (by (repeat' (first | exact NoRd.v _ | exact NoRd.sl | exact NoRd.mp | exact NoRd.tup nord_nil | refine NoRd.tup ?_ | refine NoRd.agg ?_ | exact nord_nil | refine nord_cons ?_ ?_)); (first | done | fail)) (join77_ac (strsM m m.length) ⟨#[47]⟩ hs1 hs2 hjl _)) ?_) | (with_reducible first | refine And.intro (And.intro rfl rfl) ?_ | refine And.intro (by omega) ?_) | (with_reducible refine And.intro (fun hg => ?_) (fun hg => ?_) <;> first | simp only [eq_false hg, rsB] | simp only [eq_true hg, rsB] | simp only [hg, rsB]) | (with_reducible first | refine And.intro rfl (And.intro rfl rfl) | refine thenQ_n ?_ | refine thenQ_exit ?_ | refine thenQ_ret ?_ | refine midQ_ret ?_ | refine midQ_exit ?_ | refine blockQ_same ?_ | refine blockQ_ne (by decide) ?_ | refine blockQ_ret ?_ | refine blockQ_n ?_ | refine AW.exit ?_ | refine AW.block ?_ | refine AW.cond_t rfl ?_ | refine AW.cond_f rfl ?_ | refine AW.cond_dec rfl (fun hc => ?_) (fun hc => ?_)) | (with_reducible refine AW.cond rfl (fun hc => ?_) (fun hc => ?_) <;> try simp only [Bool.not_eq_eq_eq_not, Bool.not_true, Bool.not_false, decide_eq_true_eq, decide_eq_false_iff_not] at hc) | (with_reducible first | refine AW.seq ?_ | refine AW.skip ?_ | refine AW.ret ?_ | refine And.intro ?_ ?_) | (with_reducible intro hg; first | simp only [eq_false hg, rsB] | simp only [eq_true hg, rsB]) | (with_reducible refine retQ_drop ?_; simp only [vRes, packRes, vLoad, vPart, lk, cond, Nat.reduceBEq, get_loc, getD_zero, getD_succ, true_and, List.length_cons, List.length_nil, Nat.reduceAdd, Nat.reduceLT, Nat.reduceLeDiff, List.take_succ_cons, List.take_zero, List.drop_succ_cons, List.drop_zero, vvar_1, vzero_1, vvar_2, vzero_2, vknd_2, vsn_2, vvar_3, vzero_3, vknd_3, vsn_3, vvar_4, vzero_4, vknd_4, vsn_4, vvar_9, vzero_9, vknd_9, vsn_9, vsl_24, vkn_24, vvar_24, vzero_24, vsl_41, vkn_41, vvar_41, vzero_41, vvar_43, vzero_43, vbld_43, vsl_81, vkn_81, vvar_81, vzero_81, vfld_43_0]) )
      all_goals first
        | (exfalso; omega)
        | (refine ⟨_, _, FinOk.drop hB (Pl.ids (by (repeat' (first | exact Pl.v _ | exact Pl.junk | exact Pl.rd rfl _ | exact pl_nil | refine pl_cons ?_ ?_ | refine Pl.agg ?_ | refine Pl.tup ?_ | refine Pl.rp ?_ | refine Pl.fn ?_)); (first | done | fail))), ?_, rfl⟩
           unfold mzB
           rw [hj])
        | fail
  · have hd : decide (MzOk m) = false := decide_eq_false hok
    rw [if_neg hok, hd]
    refine AC.enter envOk Tryd.func22 rfl (by decide) Tryd.ntmps22 Tryd.results22 (by simp) fun hB => ?_
    repeat' (first | (with_reducible first | refine AW.sreg envOk fun K hK => ?_ | refine AW.region envOk fun K hK => ?_ | refine vcL_nil ?_) | (with_reducible (first | refine vcL_cons fun K' hK' => ?_); simp only [isC, Bool.false_or, Bool.or_true, vAppend, elems, ↓reduceDIte, List.take_length, Nat.le_refl, List.drop_zero, vGuard, undef, Bool.not_eq_eq_eq_not, dstOk, vcOp, vcF, isPure, putS, vcCall, St.ev, St.put, lk, AVal.ofVal, initS, Nat.reduceLT, true_and, and_true, vBin, vUn, vPart, vLoad, vIdxA, vFldA, vLen, vBox, vBuildSl, partsA, fillA, decAll, AVal.flat, AVal.cell, cellsOk, setRange, ETy.enc, ETy.dec, ETy.sz, ETy.d, cond, Nat.reduceBEq, Nat.reduceAdd, Int.toNat_natCast, List.length_set, List.length_append, List.length_replicate, List.length_take, Nat.reduceSub, Nat.reduceEqDiff, get_loc, setBox_loc, next_eq, List.length_cons, List.length_nil, List.map_cons, List.map_nil, List.append_nil, List.nil_append, List.cons_append, List.set_cons_zero, List.set_cons_succ, getD_zero, getD_succ, List.getElem?_cons_succ, List.getElem?_cons_zero, List.take_succ_cons, List.take_zero, List.drop_succ_cons, List.all_cons, List.all_nil, Bool.and_true, Bool.true_and, Option.bind_some, Option.map_some, Option.map_none, decide_eq_true_eq, decide_eq_false_iff_not, ne_eq, Bool.not_eq_true, Bool.not_eq_false, Decidable.not_not, not_true_eq_false, not_false_eq_true, forall_const, false_implies, Bool.true_eq_false, Bool.false_eq_true, reduceCtorEq, decide_true, decide_false, Bool.not_true, Bool.not_false, if_true, if_false, Nat.zero_add, Nat.lt_irrefl, Value.oneCell', gt_iff_lt, Nat.reduceLeDiff, Nat.lt_add_one, vSealSl, vvar_1, vzero_1, vvar_2, vzero_2, vknd_2, vsn_2, vvar_3, vzero_3, vknd_3, vsn_3, vvar_4, vzero_4, vknd_4, vsn_4, vvar_9, vzero_9, vknd_9, vsn_9, vsl_24, vkn_24, vvar_24, vzero_24, vsl_41, vkn_41, vvar_41, vzero_41, vvar_43, vzero_43, vbld_43, vsl_81, vkn_81, vvar_81, vzero_81, vfld_43_0, hd]; try simp (disch := omega) only [wrap64]) | (with_reducible refine hK' _ ?_; clear hK' K') | (with_reducible refine hK _ ?_; clear hK K) | ((with_reducible show vCall _ (AVal.fn 44 _) _ _ _); refine vCall_pure (is76_ac m hm _) ?_) | (with_reducible first | refine And.intro (And.intro rfl rfl) ?_ | refine And.intro (by omega) ?_) | (with_reducible refine And.intro (fun hg => ?_) (fun hg => ?_) <;> first | simp only [eq_false hg, rsB] | simp only [eq_true hg, rsB] | simp only [hg, rsB]) | (with_reducible first | refine And.intro rfl (And.intro rfl rfl) | refine thenQ_n ?_ | refine thenQ_exit ?_ | refine thenQ_ret ?_ | refine midQ_ret ?_ | refine midQ_exit ?_ | refine blockQ_same ?_ | refine blockQ_ne (by decide) ?_ | refine blockQ_ret ?_ | refine blockQ_n ?_ | refine AW.exit ?_ | refine AW.block ?_ | refine AW.cond_t rfl ?_ | refine AW.cond_f rfl ?_ | refine AW.cond_dec rfl (fun hc => ?_) (fun hc => ?_)) | (with_reducible refine AW.cond rfl (fun hc => ?_) (fun hc => ?_) <;> try simp only [Bool.not_eq_eq_eq_not, Bool.not_true, Bool.not_false, decide_eq_true_eq, decide_eq_false_iff_not] at hc) | (with_reducible first | refine AW.seq ?_ | refine AW.skip ?_ | refine AW.ret ?_ | refine And.intro ?_ ?_) | (with_reducible intro hg; first | simp only [eq_false hg, rsB] | simp only [eq_true hg, rsB]) | (with_reducible refine retQ_drop ?_; simp only [vRes, packRes, vLoad, vPart, lk, cond, Nat.reduceBEq, get_loc, getD_zero, getD_succ, true_and, List.length_cons, List.length_nil, Nat.reduceAdd, Nat.reduceLT, Nat.reduceLeDiff, List.take_succ_cons, List.take_zero, List.drop_succ_cons, List.drop_zero, vvar_1, vzero_1, vvar_2, vzero_2, vknd_2, vsn_2, vvar_3, vzero_3, vknd_3, vsn_3, vvar_4, vzero_4, vknd_4, vsn_4, vvar_9, vzero_9, vknd_9, vsn_9, vsl_24, vkn_24, vvar_24, vzero_24, vsl_41, vkn_41, vvar_41, vzero_41, vvar_43, vzero_43, vbld_43, vsl_81, vkn_81, vvar_81, vzero_81, vfld_43_0]) )
    exact ⟨_, _, FinOk.drop hB (Pl.ids (by (repeat' (first | exact Pl.v _ | exact Pl.junk | exact Pl.rd rfl _ | exact pl_nil | refine pl_cons ?_ ?_ | refine Pl.agg ?_ | refine Pl.tup ?_ | refine Pl.rp ?_ | refine Pl.fn ?_)); (first | done | fail))), rfl, rfl⟩
end Go.Proofs.YtmkcahfhnehanaaDoor
end

/- Walks: who must be above whom. -/
import Derived.Test.YtdphlhplcmjepaaW5
set_option linter.unusedSimpArgs false
set_option linter.unusedVariables false
set_option maxHeartbeats 1000000
namespace Go.Proofs.Ytdphlhplcmjepaa
open Go.Eng

theorem get_cons (kk : KK) (k : kk.T) (x : kk.T × Value) (r : List (kk.T × Value)) : getK kk k (x :: r) = if k = x.1 then some x.2 else getK kk k r := by
  unfold getK
  rw [lookK]
  split
  · rfl
  · rw [look_shift kk k r (0 + 1)]
    cases lookK kk k r 0 <;> rfl
theorem get_put (kk : KK) (k k' : kk.T) (v : Value) : ∀ es : List (kk.T × Value), getK kk k' (putK kk k v es) = if k' = k then some v else getK kk k' es
  | [] => by
    unfold putK
    rw [get_cons]
  | x :: r => by
    unfold putK
    split
    · rename_i h
      rw [get_cons, get_cons, h]
      split <;> rfl
    · rename_i h
      rw [get_cons, get_put kk k k' v r, get_cons]
      by_cases h1 : k' = x.1
      · rw [if_pos h1, if_neg (fun h2 => h (h2.symm.trans h1)), if_pos h1]
      · rw [if_neg h1, if_neg h1]
theorem mem_of_getD {xs : List Int} {i : Nat} {x : Int} (hi : i < xs.length) (h : x = xs.getD i 0) : x ∈ xs := by
  rw [h]; simp only [List.getD, List.getElem?_eq_getElem hi, Option.getD_some]; exact List.getElem_mem hi
theorem not_mem_of {xs : List Int} {x : Int} (h : ∀ j, j < xs.length → ¬ x = xs.getD j 0) : ¬ x ∈ xs := fun hm => by
  obtain ⟨j, hj, e⟩ := List.mem_iff_getElem.1 hm
  exact h j hj (by simp only [List.getD, List.getElem?_eq_getElem hj, Option.getD_some]; exact e.symm)
theorem has80_ac (xs : List Int) (x : Int) (hx : xs.length ≤ 1000000000) (H : List ABox) : AC Try.prog 80 [.rd (.int .i64) (xs), .v (.int .i64 (x))] H (fun r H' => r = .v (.bool (decide (x ∈ xs))) ∧ H' = H) := by
  refine AC.enter envOk Try.func80 rfl (by decide) Try.ntmps80 Try.results80 (by simp) fun hB => ?_
  repeat' (first
    | (with_reducible refine AW.sreg envOk fun K hK => ?_)
    | (with_reducible refine AW.region envOk fun K hK => ?_)
    | (with_reducible refine vcL_nil ?_)
    | (with_reducible refine vcL_cons fun K' hK' => ?_; simp only [vAppend, elems, ↓reduceDIte, List.take_length, Nat.le_refl, List.drop_zero, vGuard, undef, Bool.not_eq_eq_eq_not, dstOk, vcOp, vcF, isPure, putS, vcCall, St.ev, St.put, lk, AVal.ofVal, initS, Nat.reduceLT, true_and, and_true, vBin, vUn, vPick, vConv, vPart, vLoad, vStore, vIdxA, vIdx, vFldA, vExt, vLen, vMin, vNil, vAlloc, vBox, vBuild, vBuildSl, vMake, vSlice, bnd, partsA, fillA, decAll, AVal.flat, AVal.cell, cellsOk, setRange, ETy.enc, ETy.dec, ETy.sz, ETy.d, cond, Nat.reduceBEq, Nat.reduceAdd, Int.toNat_natCast, List.length_set, List.length_append, List.length_replicate, List.length_take, Nat.reduceSub, Nat.reduceEqDiff, get_loc, setBox_loc, next_eq, List.length_cons, List.length_nil, List.map_cons, List.map_nil, List.append_nil, List.nil_append, List.cons_append, List.set_cons_zero, List.set_cons_succ, getD_zero, getD_succ, List.getElem?_cons_succ, List.getElem?_cons_zero, List.take_succ_cons, List.take_zero, List.drop_succ_cons, List.drop_zero, List.all_cons, List.all_nil, Bool.and_true, Bool.true_and, Option.bind_some, Option.map_some, Option.map_none, decide_eq_true_eq, decide_eq_false_iff_not, ne_eq, Bool.not_eq_true, Bool.not_eq_false, Decidable.not_not, not_true_eq_false, not_false_eq_true, forall_const, false_implies, Bool.true_eq_false, Bool.false_eq_true, reduceCtorEq, decide_true, decide_false, Bool.not_true, Bool.not_false, if_true, if_false, Nat.zero_add, Nat.lt_irrefl, Value.oneCell', gt_iff_lt, Nat.reduceLeDiff, Nat.lt_add_one, List.length_append, vMakeMap, vLookup, vMapUpd, vMapEnt, vEntSt, vRange, vEntry, KK.of, KK.av, lkRes, entry_last, vvar_2, vzero_2, vknd_2, vsn_2, vvar_3, vzero_3, vknd_3, vsn_3, vvar_4, vzero_4, vknd_4, vsn_4, vsl_22, vkn_22, vvar_22, vzero_22]; try simp (disch := omega) only [wrap64])
    | (with_reducible refine hK' _ ?_; clear hK' K')
    | (with_reducible refine hK _ ?_; clear hK K)
    | (with_reducible refine And.intro (And.intro rfl rfl) ?_)
    | (with_reducible refine And.intro (by omega) ?_)
    | (with_reducible refine And.intro (fun hg => ?_) (fun hg => ?_) <;> first | simp only [eq_false hg, decide_true, decide_false, and_true, true_and, and_false, false_and, not_true_eq_false, not_false_eq_true] | simp only [eq_true hg, decide_true, decide_false, and_true, true_and, and_false, false_and, not_true_eq_false, not_false_eq_true] | simp only [hg, decide_true, decide_false, and_true, true_and, and_false, false_and, not_true_eq_false, not_false_eq_true])
    | (with_reducible refine And.intro rfl (And.intro rfl rfl))
    | (with_reducible refine thenQ_n ?_)
    | (with_reducible refine thenQ_exit ?_)
    | (with_reducible refine thenQ_ret ?_)
    | (with_reducible refine midQ_ret ?_)
    | (with_reducible refine midQ_exit ?_)
    | (with_reducible refine blockQ_same ?_)
    | (with_reducible refine blockQ_ret ?_)
    | (with_reducible refine blockQ_n ?_)
    | (with_reducible refine AW.exit ?_)
    | (with_reducible refine AW.block ?_)
    | (with_reducible refine AW.cond_t rfl ?_)
    | (with_reducible refine AW.cond_f rfl ?_)
    | (with_reducible refine AW.cond_dec rfl (fun hc => ?_) (fun hc => ?_))
    | (with_reducible refine AW.cond rfl (fun hc => ?_) (fun hc => ?_) <;> try simp only [Bool.not_eq_eq_eq_not, Bool.not_true, Bool.not_false, decide_eq_true_eq, decide_eq_false_iff_not] at hc)
    | (with_reducible refine AW.seq ?_)
    | (with_reducible refine AW.skip ?_)
    | (with_reducible refine AW.ret ?_)
    | (with_reducible refine And.intro ?_ ?_)
    | (with_reducible intro hg; first | simp only [eq_false hg, decide_true, decide_false, and_true, true_and, and_false, false_and, not_true_eq_false, not_false_eq_true] | simp only [eq_true hg, decide_true, decide_false, and_true, true_and, and_false, false_and, not_true_eq_false, not_false_eq_true])
    | (with_reducible refine retQ_drop ?_; simp only [vRes, packRes, vLoad, vPart, lk, cond, Nat.reduceBEq, get_loc, getD_zero, getD_succ, true_and, List.length_cons, List.length_nil, Nat.reduceAdd, Nat.reduceLT, Nat.reduceLeDiff, List.take_succ_cons, List.take_zero, List.drop_succ_cons, List.drop_zero, vvar_2, vzero_2, vknd_2, vsn_2, vvar_3, vzero_3, vknd_3, vsn_3, vvar_4, vzero_4, vknd_4, vsn_4, vsl_22, vkn_22, vvar_22, vzero_22])
    )
  refine AW.loop (fun i : Nat => (⟨18, [(0, .rd (.int .i64) (xs)), (1, .v (.int .i64 (x))), (5, .v (.int .i64 ((i : Int))))], H, []⟩ : St)) (fun i => i ≤ xs.length ∧ ∀ j, j < i → ¬ x = xs.getD j 0) (fun i => xs.length - i) 0 ⟨Nat.zero_le _, fun j h => absurd h (by omega)⟩ (Weak.slots (by repeat' first | exact trivial | exact ⟨rfl, trivial⟩ | refine ⟨rfl, ?_⟩)) ?_
  intro i ⟨hi, hI⟩
  repeat' (first
    | (with_reducible refine AW.sreg envOk fun K hK => ?_)
    | (with_reducible refine AW.region envOk fun K hK => ?_)
    | (with_reducible refine vcL_nil ?_)
    | (with_reducible refine vcL_cons fun K' hK' => ?_; simp only [vAppend, elems, ↓reduceDIte, List.take_length, Nat.le_refl, List.drop_zero, vGuard, undef, Bool.not_eq_eq_eq_not, dstOk, vcOp, vcF, isPure, putS, vcCall, St.ev, St.put, lk, AVal.ofVal, initS, Nat.reduceLT, true_and, and_true, vBin, vUn, vPick, vConv, vPart, vLoad, vStore, vIdxA, vIdx, vFldA, vExt, vLen, vMin, vNil, vAlloc, vBox, vBuild, vBuildSl, vMake, vSlice, bnd, partsA, fillA, decAll, AVal.flat, AVal.cell, cellsOk, setRange, ETy.enc, ETy.dec, ETy.sz, ETy.d, cond, Nat.reduceBEq, Nat.reduceAdd, Int.toNat_natCast, List.length_set, List.length_append, List.length_replicate, List.length_take, Nat.reduceSub, Nat.reduceEqDiff, get_loc, setBox_loc, next_eq, List.length_cons, List.length_nil, List.map_cons, List.map_nil, List.append_nil, List.nil_append, List.cons_append, List.set_cons_zero, List.set_cons_succ, getD_zero, getD_succ, List.getElem?_cons_succ, List.getElem?_cons_zero, List.take_succ_cons, List.take_zero, List.drop_succ_cons, List.drop_zero, List.all_cons, List.all_nil, Bool.and_true, Bool.true_and, Option.bind_some, Option.map_some, Option.map_none, decide_eq_true_eq, decide_eq_false_iff_not, ne_eq, Bool.not_eq_true, Bool.not_eq_false, Decidable.not_not, not_true_eq_false, not_false_eq_true, forall_const, false_implies, Bool.true_eq_false, Bool.false_eq_true, reduceCtorEq, decide_true, decide_false, Bool.not_true, Bool.not_false, if_true, if_false, Nat.zero_add, Nat.lt_irrefl, Value.oneCell', gt_iff_lt, Nat.reduceLeDiff, Nat.lt_add_one, List.length_append, vMakeMap, vLookup, vMapUpd, vMapEnt, vEntSt, vRange, vEntry, KK.of, KK.av, lkRes, entry_last, vvar_2, vzero_2, vknd_2, vsn_2, vvar_3, vzero_3, vknd_3, vsn_3, vvar_4, vzero_4, vknd_4, vsn_4, vsl_22, vkn_22, vvar_22, vzero_22]; try simp (disch := omega) only [wrap64])
    | (with_reducible refine hK' _ ?_; clear hK' K')
    | (with_reducible refine hK _ ?_; clear hK K)
    | (with_reducible refine And.intro (And.intro rfl rfl) ?_)
    | (with_reducible refine And.intro (by omega) ?_)
    | (with_reducible refine And.intro (fun hg => ?_) (fun hg => ?_) <;> first | simp only [eq_false hg, decide_true, decide_false, and_true, true_and, and_false, false_and, not_true_eq_false, not_false_eq_true] | simp only [eq_true hg, decide_true, decide_false, and_true, true_and, and_false, false_and, not_true_eq_false, not_false_eq_true] | simp only [hg, decide_true, decide_false, and_true, true_and, and_false, false_and, not_true_eq_false, not_false_eq_true])
    | (with_reducible refine And.intro rfl (And.intro rfl rfl))
    | (with_reducible refine thenQ_n ?_)
    | (with_reducible refine thenQ_exit ?_)
    | (with_reducible refine thenQ_ret ?_)
    | (with_reducible refine midQ_ret ?_)
    | (with_reducible refine midQ_exit ?_)
    | (with_reducible refine blockQ_same ?_)
    | (with_reducible refine blockQ_ret ?_)
    | (with_reducible refine blockQ_n ?_)
    | (with_reducible refine AW.exit ?_)
    | (with_reducible refine AW.block ?_)
    | (with_reducible refine AW.cond_t rfl ?_)
    | (with_reducible refine AW.cond_f rfl ?_)
    | (with_reducible refine AW.cond_dec rfl (fun hc => ?_) (fun hc => ?_))
    | (with_reducible refine AW.cond rfl (fun hc => ?_) (fun hc => ?_) <;> try simp only [Bool.not_eq_eq_eq_not, Bool.not_true, Bool.not_false, decide_eq_true_eq, decide_eq_false_iff_not] at hc)
    | (with_reducible refine AW.seq ?_)
    | (with_reducible refine AW.skip ?_)
    | (with_reducible refine AW.ret ?_)
    | (with_reducible refine And.intro ?_ ?_)
    | (with_reducible intro hg; first | simp only [eq_false hg, decide_true, decide_false, and_true, true_and, and_false, false_and, not_true_eq_false, not_false_eq_true] | simp only [eq_true hg, decide_true, decide_false, and_true, true_and, and_false, false_and, not_true_eq_false, not_false_eq_true])
    | (with_reducible refine retQ_drop ?_; simp only [vRes, packRes, vLoad, vPart, lk, cond, Nat.reduceBEq, get_loc, getD_zero, getD_succ, true_and, List.length_cons, List.length_nil, Nat.reduceAdd, Nat.reduceLT, Nat.reduceLeDiff, List.take_succ_cons, List.take_zero, List.drop_succ_cons, List.drop_zero, vvar_2, vzero_2, vknd_2, vsn_2, vvar_3, vzero_3, vknd_3, vsn_3, vvar_4, vzero_4, vknd_4, vsn_4, vsl_22, vkn_22, vvar_22, vzero_22])
    )
  · refine ⟨_, _, FinOk.drop hB (Pl.ids (by (repeat' (first | exact Pl.v _ | exact Pl.junk | exact Pl.rd rfl _ | exact pl_nil | refine pl_cons ?_ ?_ | refine Pl.agg ?_ | refine Pl.tup ?_ | refine Pl.rp ?_ | refine Pl.fn ?_)); (first | done | fail))), ?_, rfl⟩
    exact v_bool ⟨fun _ => mem_of_getD (i := i) (by omega) (by omega), fun _ => rfl⟩
  · refine ⟨i + 1, ⟨by omega, fun j hj => ?_⟩, by omega, (Weak.slots (by repeat' first | exact trivial | exact ⟨rfl, trivial⟩ | refine ⟨rfl, ?_⟩))⟩
    by_cases e : j = i
    · subst e; omega
    · exact hI j (by omega)
  · refine ⟨_, _, FinOk.drop hB (Pl.ids (by (repeat' (first | exact Pl.v _ | exact Pl.junk | exact Pl.rd rfl _ | exact pl_nil | refine pl_cons ?_ ?_ | refine Pl.agg ?_ | refine Pl.tup ?_ | refine Pl.rp ?_ | refine Pl.fn ?_)); (first | done | fail))), ?_, rfl⟩
    exact v_bool ⟨fun h => absurd h (by decide), fun h => absurd h (not_mem_of (fun j hj => hI j (by omega)))⟩
theorem idx87_ac (xs : List Int) (x : Int) (hx : xs.length ≤ 1000000000) (H : List ABox) : AC Try.prog 87 [.rd (.int .i64) (xs), .v (.int .i64 (x))] H (fun r H' => ∃ n : Int, (0 ≤ n ↔ x ∈ xs) ∧ r = .v (.int .i64 (n)) ∧ H' = H) := by
  refine AC.enter envOk Try.func87 rfl (by decide) Try.ntmps87 Try.results87 (by simp) fun hB => ?_
  repeat' (first
    | (with_reducible refine AW.sreg envOk fun K hK => ?_)
    | (with_reducible refine AW.region envOk fun K hK => ?_)
    | (with_reducible refine vcL_nil ?_)
    | (with_reducible refine vcL_cons fun K' hK' => ?_; simp only [vAppend, elems, ↓reduceDIte, List.take_length, Nat.le_refl, List.drop_zero, vGuard, undef, Bool.not_eq_eq_eq_not, dstOk, vcOp, vcF, isPure, putS, vcCall, St.ev, St.put, lk, AVal.ofVal, initS, Nat.reduceLT, true_and, and_true, vBin, vUn, vPick, vConv, vPart, vLoad, vStore, vIdxA, vIdx, vFldA, vExt, vLen, vMin, vNil, vAlloc, vBox, vBuild, vBuildSl, vMake, vSlice, bnd, partsA, fillA, decAll, AVal.flat, AVal.cell, cellsOk, setRange, ETy.enc, ETy.dec, ETy.sz, ETy.d, cond, Nat.reduceBEq, Nat.reduceAdd, Int.toNat_natCast, List.length_set, List.length_append, List.length_replicate, List.length_take, Nat.reduceSub, Nat.reduceEqDiff, get_loc, setBox_loc, next_eq, List.length_cons, List.length_nil, List.map_cons, List.map_nil, List.append_nil, List.nil_append, List.cons_append, List.set_cons_zero, List.set_cons_succ, getD_zero, getD_succ, List.getElem?_cons_succ, List.getElem?_cons_zero, List.take_succ_cons, List.take_zero, List.drop_succ_cons, List.drop_zero, List.all_cons, List.all_nil, Bool.and_true, Bool.true_and, Option.bind_some, Option.map_some, Option.map_none, decide_eq_true_eq, decide_eq_false_iff_not, ne_eq, Bool.not_eq_true, Bool.not_eq_false, Decidable.not_not, not_true_eq_false, not_false_eq_true, forall_const, false_implies, Bool.true_eq_false, Bool.false_eq_true, reduceCtorEq, decide_true, decide_false, Bool.not_true, Bool.not_false, if_true, if_false, Nat.zero_add, Nat.lt_irrefl, Value.oneCell', gt_iff_lt, Nat.reduceLeDiff, Nat.lt_add_one, List.length_append, vMakeMap, vLookup, vMapUpd, vMapEnt, vEntSt, vRange, vEntry, KK.of, KK.av, lkRes, entry_last, vvar_2, vzero_2, vknd_2, vsn_2, vvar_3, vzero_3, vknd_3, vsn_3, vvar_4, vzero_4, vknd_4, vsn_4, vsl_22, vkn_22, vvar_22, vzero_22]; try simp (disch := omega) only [wrap64])
    | (with_reducible refine hK' _ ?_; clear hK' K')
    | (with_reducible refine hK _ ?_; clear hK K)
    | (with_reducible refine And.intro (And.intro rfl rfl) ?_)
    | (with_reducible refine And.intro (by omega) ?_)
    | (with_reducible refine And.intro (fun hg => ?_) (fun hg => ?_) <;> first | simp only [eq_false hg, decide_true, decide_false, and_true, true_and, and_false, false_and, not_true_eq_false, not_false_eq_true] | simp only [eq_true hg, decide_true, decide_false, and_true, true_and, and_false, false_and, not_true_eq_false, not_false_eq_true] | simp only [hg, decide_true, decide_false, and_true, true_and, and_false, false_and, not_true_eq_false, not_false_eq_true])
    | (with_reducible refine And.intro rfl (And.intro rfl rfl))
    | (with_reducible refine thenQ_n ?_)
    | (with_reducible refine thenQ_exit ?_)
    | (with_reducible refine thenQ_ret ?_)
    | (with_reducible refine midQ_ret ?_)
    | (with_reducible refine midQ_exit ?_)
    | (with_reducible refine blockQ_same ?_)
    | (with_reducible refine blockQ_ret ?_)
    | (with_reducible refine blockQ_n ?_)
    | (with_reducible refine AW.exit ?_)
    | (with_reducible refine AW.block ?_)
    | (with_reducible refine AW.cond_t rfl ?_)
    | (with_reducible refine AW.cond_f rfl ?_)
    | (with_reducible refine AW.cond_dec rfl (fun hc => ?_) (fun hc => ?_))
    | (with_reducible refine AW.cond rfl (fun hc => ?_) (fun hc => ?_) <;> try simp only [Bool.not_eq_eq_eq_not, Bool.not_true, Bool.not_false, decide_eq_true_eq, decide_eq_false_iff_not] at hc)
    | (with_reducible refine AW.seq ?_)
    | (with_reducible refine AW.skip ?_)
    | (with_reducible refine AW.ret ?_)
    | (with_reducible refine And.intro ?_ ?_)
    | (with_reducible intro hg; first | simp only [eq_false hg, decide_true, decide_false, and_true, true_and, and_false, false_and, not_true_eq_false, not_false_eq_true] | simp only [eq_true hg, decide_true, decide_false, and_true, true_and, and_false, false_and, not_true_eq_false, not_false_eq_true])
    | (with_reducible refine retQ_drop ?_; simp only [vRes, packRes, vLoad, vPart, lk, cond, Nat.reduceBEq, get_loc, getD_zero, getD_succ, true_and, List.length_cons, List.length_nil, Nat.reduceAdd, Nat.reduceLT, Nat.reduceLeDiff, List.take_succ_cons, List.take_zero, List.drop_succ_cons, List.drop_zero, vvar_2, vzero_2, vknd_2, vsn_2, vvar_3, vzero_3, vknd_3, vsn_3, vvar_4, vzero_4, vknd_4, vsn_4, vsl_22, vkn_22, vvar_22, vzero_22])
    )
  refine AW.loop (fun i : Nat => (⟨19, [(0, .rd (.int .i64) (xs)), (1, .v (.int .i64 (x))), (7, .v (.int .i64 ((xs.length : Int)))), (8, .v (.int .i64 ((i : Int))))], H, []⟩ : St)) (fun i => i ≤ xs.length ∧ ∀ j, j < i → ¬ x = xs.getD j 0) (fun i => xs.length - i) 0 ⟨Nat.zero_le _, fun j h => absurd h (by omega)⟩ (Weak.slots (by repeat' first | exact trivial | exact ⟨rfl, trivial⟩ | refine ⟨rfl, ?_⟩)) ?_
  intro i ⟨hi, hI⟩
  repeat' (first
    | (with_reducible refine AW.sreg envOk fun K hK => ?_)
    | (with_reducible refine AW.region envOk fun K hK => ?_)
    | (with_reducible refine vcL_nil ?_)
    | (with_reducible refine vcL_cons fun K' hK' => ?_; simp only [vAppend, elems, ↓reduceDIte, List.take_length, Nat.le_refl, List.drop_zero, vGuard, undef, Bool.not_eq_eq_eq_not, dstOk, vcOp, vcF, isPure, putS, vcCall, St.ev, St.put, lk, AVal.ofVal, initS, Nat.reduceLT, true_and, and_true, vBin, vUn, vPick, vConv, vPart, vLoad, vStore, vIdxA, vIdx, vFldA, vExt, vLen, vMin, vNil, vAlloc, vBox, vBuild, vBuildSl, vMake, vSlice, bnd, partsA, fillA, decAll, AVal.flat, AVal.cell, cellsOk, setRange, ETy.enc, ETy.dec, ETy.sz, ETy.d, cond, Nat.reduceBEq, Nat.reduceAdd, Int.toNat_natCast, List.length_set, List.length_append, List.length_replicate, List.length_take, Nat.reduceSub, Nat.reduceEqDiff, get_loc, setBox_loc, next_eq, List.length_cons, List.length_nil, List.map_cons, List.map_nil, List.append_nil, List.nil_append, List.cons_append, List.set_cons_zero, List.set_cons_succ, getD_zero, getD_succ, List.getElem?_cons_succ, List.getElem?_cons_zero, List.take_succ_cons, List.take_zero, List.drop_succ_cons, List.drop_zero, List.all_cons, List.all_nil, Bool.and_true, Bool.true_and, Option.bind_some, Option.map_some, Option.map_none, decide_eq_true_eq, decide_eq_false_iff_not, ne_eq, Bool.not_eq_true, Bool.not_eq_false, Decidable.not_not, not_true_eq_false, not_false_eq_true, forall_const, false_implies, Bool.true_eq_false, Bool.false_eq_true, reduceCtorEq, decide_true, decide_false, Bool.not_true, Bool.not_false, if_true, if_false, Nat.zero_add, Nat.lt_irrefl, Value.oneCell', gt_iff_lt, Nat.reduceLeDiff, Nat.lt_add_one, List.length_append, vMakeMap, vLookup, vMapUpd, vMapEnt, vEntSt, vRange, vEntry, KK.of, KK.av, lkRes, entry_last, vvar_2, vzero_2, vknd_2, vsn_2, vvar_3, vzero_3, vknd_3, vsn_3, vvar_4, vzero_4, vknd_4, vsn_4, vsl_22, vkn_22, vvar_22, vzero_22]; try simp (disch := omega) only [wrap64])
    | (with_reducible refine hK' _ ?_; clear hK' K')
    | (with_reducible refine hK _ ?_; clear hK K)
    | (with_reducible refine And.intro (And.intro rfl rfl) ?_)
    | (with_reducible refine And.intro (by omega) ?_)
    | (with_reducible refine And.intro (fun hg => ?_) (fun hg => ?_) <;> first | simp only [eq_false hg, decide_true, decide_false, and_true, true_and, and_false, false_and, not_true_eq_false, not_false_eq_true] | simp only [eq_true hg, decide_true, decide_false, and_true, true_and, and_false, false_and, not_true_eq_false, not_false_eq_true] | simp only [hg, decide_true, decide_false, and_true, true_and, and_false, false_and, not_true_eq_false, not_false_eq_true])
    | (with_reducible refine And.intro rfl (And.intro rfl rfl))
    | (with_reducible refine thenQ_n ?_)
    | (with_reducible refine thenQ_exit ?_)
    | (with_reducible refine thenQ_ret ?_)
    | (with_reducible refine midQ_ret ?_)
    | (with_reducible refine midQ_exit ?_)
    | (with_reducible refine blockQ_same ?_)
    | (with_reducible refine blockQ_ret ?_)
    | (with_reducible refine blockQ_n ?_)
    | (with_reducible refine AW.exit ?_)
    | (with_reducible refine AW.block ?_)
    | (with_reducible refine AW.cond_t rfl ?_)
    | (with_reducible refine AW.cond_f rfl ?_)
    | (with_reducible refine AW.cond_dec rfl (fun hc => ?_) (fun hc => ?_))
    | (with_reducible refine AW.cond rfl (fun hc => ?_) (fun hc => ?_) <;> try simp only [Bool.not_eq_eq_eq_not, Bool.not_true, Bool.not_false, decide_eq_true_eq, decide_eq_false_iff_not] at hc)
    | (with_reducible refine AW.seq ?_)
    | (with_reducible refine AW.skip ?_)
    | (with_reducible refine AW.ret ?_)
    | (with_reducible refine And.intro ?_ ?_)
    | (with_reducible intro hg; first | simp only [eq_false hg, decide_true, decide_false, and_true, true_and, and_false, false_and, not_true_eq_false, not_false_eq_true] | simp only [eq_true hg, decide_true, decide_false, and_true, true_and, and_false, false_and, not_true_eq_false, not_false_eq_true])
    | (with_reducible refine retQ_drop ?_; simp only [vRes, packRes, vLoad, vPart, lk, cond, Nat.reduceBEq, get_loc, getD_zero, getD_succ, true_and, List.length_cons, List.length_nil, Nat.reduceAdd, Nat.reduceLT, Nat.reduceLeDiff, List.take_succ_cons, List.take_zero, List.drop_succ_cons, List.drop_zero, vvar_2, vzero_2, vknd_2, vsn_2, vvar_3, vzero_3, vknd_3, vsn_3, vvar_4, vzero_4, vknd_4, vsn_4, vsl_22, vkn_22, vvar_22, vzero_22])
    )
  · exact ⟨_, _, FinOk.drop hB (.v _), (i : Int), ⟨fun _ => mem_of_getD (i := i) (by omega) (by omega), fun _ => by omega⟩, rfl, rfl⟩
  · refine ⟨i + 1, ⟨by omega, fun j hj => ?_⟩, by omega, (Weak.slots (by repeat' first | exact trivial | exact ⟨rfl, trivial⟩ | refine ⟨rfl, ?_⟩))⟩
    by_cases e : j = i
    · subst e; omega
    · exact hI j (by omega)
  · exact ⟨_, _, FinOk.drop hB (.v _), (-1 : Int), ⟨fun h => absurd h (by omega), fun h => absurd h (not_mem_of (fun j hj => hI j (by omega)))⟩, rfl, rfl⟩
theorem cont81_ac (xs : List Int) (x : Int) (hx : xs.length ≤ 1000000000) (H : List ABox) : AC Try.prog 81 [.rd (.int .i64) (xs), .v (.int .i64 (x))] H (fun r H' => r = .v (.bool (decide (x ∈ xs))) ∧ H' = H) := by
  refine AC.enter envOk Try.func81 rfl (by decide) Try.ntmps81 Try.results81 (by simp) fun hB => ?_
  repeat' (first
    | (with_reducible refine AW.sreg envOk fun K hK => ?_)
    | (with_reducible refine AW.region envOk fun K hK => ?_)
    | (with_reducible refine vcL_nil ?_)
    | (with_reducible refine vcL_cons fun K' hK' => ?_; simp only [vAppend, elems, ↓reduceDIte, List.take_length, Nat.le_refl, List.drop_zero, vGuard, undef, Bool.not_eq_eq_eq_not, dstOk, vcOp, vcF, isPure, putS, vcCall, St.ev, St.put, lk, AVal.ofVal, initS, Nat.reduceLT, true_and, and_true, vBin, vUn, vPick, vConv, vPart, vLoad, vStore, vIdxA, vIdx, vFldA, vExt, vLen, vMin, vNil, vAlloc, vBox, vBuild, vBuildSl, vMake, vSlice, bnd, partsA, fillA, decAll, AVal.flat, AVal.cell, cellsOk, setRange, ETy.enc, ETy.dec, ETy.sz, ETy.d, cond, Nat.reduceBEq, Nat.reduceAdd, Int.toNat_natCast, List.length_set, List.length_append, List.length_replicate, List.length_take, Nat.reduceSub, Nat.reduceEqDiff, get_loc, setBox_loc, next_eq, List.length_cons, List.length_nil, List.map_cons, List.map_nil, List.append_nil, List.nil_append, List.cons_append, List.set_cons_zero, List.set_cons_succ, getD_zero, getD_succ, List.getElem?_cons_succ, List.getElem?_cons_zero, List.take_succ_cons, List.take_zero, List.drop_succ_cons, List.drop_zero, List.all_cons, List.all_nil, Bool.and_true, Bool.true_and, Option.bind_some, Option.map_some, Option.map_none, decide_eq_true_eq, decide_eq_false_iff_not, ne_eq, Bool.not_eq_true, Bool.not_eq_false, Decidable.not_not, not_true_eq_false, not_false_eq_true, forall_const, false_implies, Bool.true_eq_false, Bool.false_eq_true, reduceCtorEq, decide_true, decide_false, Bool.not_true, Bool.not_false, if_true, if_false, Nat.zero_add, Nat.lt_irrefl, Value.oneCell', gt_iff_lt, Nat.reduceLeDiff, Nat.lt_add_one, List.length_append, vMakeMap, vLookup, vMapUpd, vMapEnt, vEntSt, vRange, vEntry, KK.of, KK.av, lkRes, entry_last, vvar_2, vzero_2, vknd_2, vsn_2, vvar_3, vzero_3, vknd_3, vsn_3, vvar_4, vzero_4, vknd_4, vsn_4, vsl_22, vkn_22, vvar_22, vzero_22]; try simp (disch := omega) only [wrap64])
    | (with_reducible refine hK' _ ?_; clear hK' K')
    | (with_reducible refine hK _ ?_; clear hK K)
    | (with_reducible refine vCall_ex (idx87_ac xs x hx _) (fun n hn => ?_))
    | (with_reducible refine And.intro (And.intro rfl rfl) ?_)
    | (with_reducible refine And.intro (by omega) ?_)
    | (with_reducible refine And.intro (fun hg => ?_) (fun hg => ?_) <;> first | simp only [eq_false hg, decide_true, decide_false, and_true, true_and, and_false, false_and, not_true_eq_false, not_false_eq_true] | simp only [eq_true hg, decide_true, decide_false, and_true, true_and, and_false, false_and, not_true_eq_false, not_false_eq_true] | simp only [hg, decide_true, decide_false, and_true, true_and, and_false, false_and, not_true_eq_false, not_false_eq_true])
    | (with_reducible refine And.intro rfl (And.intro rfl rfl))
    | (with_reducible refine thenQ_n ?_)
    | (with_reducible refine thenQ_exit ?_)
    | (with_reducible refine thenQ_ret ?_)
    | (with_reducible refine midQ_ret ?_)
    | (with_reducible refine midQ_exit ?_)
    | (with_reducible refine blockQ_same ?_)
    | (with_reducible refine blockQ_ret ?_)
    | (with_reducible refine blockQ_n ?_)
    | (with_reducible refine AW.exit ?_)
    | (with_reducible refine AW.block ?_)
    | (with_reducible refine AW.cond_t rfl ?_)
    | (with_reducible refine AW.cond_f rfl ?_)
    | (with_reducible refine AW.cond_dec rfl (fun hc => ?_) (fun hc => ?_))
    | (with_reducible refine AW.cond rfl (fun hc => ?_) (fun hc => ?_) <;> try simp only [Bool.not_eq_eq_eq_not, Bool.not_true, Bool.not_false, decide_eq_true_eq, decide_eq_false_iff_not] at hc)
    | (with_reducible refine AW.seq ?_)
    | (with_reducible refine AW.skip ?_)
    | (with_reducible refine AW.ret ?_)
    | (with_reducible refine And.intro ?_ ?_)
    | (with_reducible intro hg; first | simp only [eq_false hg, decide_true, decide_false, and_true, true_and, and_false, false_and, not_true_eq_false, not_false_eq_true] | simp only [eq_true hg, decide_true, decide_false, and_true, true_and, and_false, false_and, not_true_eq_false, not_false_eq_true])
    | (with_reducible refine retQ_drop ?_; simp only [vRes, packRes, vLoad, vPart, lk, cond, Nat.reduceBEq, get_loc, getD_zero, getD_succ, true_and, List.length_cons, List.length_nil, Nat.reduceAdd, Nat.reduceLT, Nat.reduceLeDiff, List.take_succ_cons, List.take_zero, List.drop_succ_cons, List.drop_zero, vvar_2, vzero_2, vknd_2, vsn_2, vvar_3, vzero_3, vknd_3, vsn_3, vvar_4, vzero_4, vknd_4, vsn_4, vsl_22, vkn_22, vvar_22, vzero_22])
    )
  refine ⟨_, _, FinOk.drop hB (Pl.ids (by (repeat' (first | exact Pl.v _ | exact Pl.junk | exact Pl.rd rfl _ | exact pl_nil | refine pl_cons ?_ ?_ | refine Pl.agg ?_ | refine Pl.tup ?_ | refine Pl.rp ?_ | refine Pl.fn ?_)); (first | done | fail))), ?_, rfl⟩
  refine v_bool ?_
  rw [decide_eq_true_eq]
  exact hn
/-- Some column before i has a over b. -/
def AbTo (c : Ch) (i : Nat) (a b : Int) : Prop := ∃ j, j < i ∧ a = c.1.getD j 0 ∧ b = c.2.getD j 0
def AbNets (c : Ch) (a b : Int) : Prop := ¬ a = b ∧ a ∈ nets c ∧ b ∈ nets c
def Above (c : Ch) (a b : Int) : Prop := AbNets c a b ∧ AbTo c c.1.length a b
noncomputable instance (c : Ch) (i : Nat) (a b : Int) : Decidable (AbNets c a b ∧ AbTo c i a b) := Classical.propDecidable _
noncomputable instance (c : Ch) (a b : Int) : Decidable (Above c a b) := Classical.propDecidable _
theorem above62_ac (c : Ch) (a b : Int) (hx : c.1.length ≤ 2000000) (hy : c.2.length = c.1.length) (H : List ABox) : AC Try.prog 62 [.rp [.rd (.int .i64) (c).1, .rd (.int .i64) (c).2] 0, .v (.int .i64 (a)), .v (.int .i64 (b))] H (fun r H' => r = .v (.bool (decide (Above c a b))) ∧ H' = H) := by
  have hn := nets_len c
  have h0 : (0 : Int) ∉ nets c := fun h => by have := nets_mem c h; omega
  refine AC.enter envOk Try.func62 rfl (by decide) Try.ntmps62 Try.results62 (by simp) fun hB => ?_
  repeat' (first
    | (with_reducible refine AW.sreg envOk fun K hK => ?_)
    | (with_reducible refine AW.region envOk fun K hK => ?_)
    | (with_reducible refine vcL_nil ?_)
    | (with_reducible refine vcL_cons fun K' hK' => ?_; simp only [vAppend, elems, ↓reduceDIte, List.take_length, Nat.le_refl, List.drop_zero, vGuard, undef, Bool.not_eq_eq_eq_not, dstOk, vcOp, vcF, isPure, putS, vcCall, St.ev, St.put, lk, AVal.ofVal, initS, Nat.reduceLT, true_and, and_true, vBin, vUn, vPick, vConv, vPart, vLoad, vStore, vIdxA, vIdx, vFldA, vExt, vLen, vMin, vNil, vAlloc, vBox, vBuild, vBuildSl, vMake, vSlice, bnd, partsA, fillA, decAll, AVal.flat, AVal.cell, cellsOk, setRange, ETy.enc, ETy.dec, ETy.sz, ETy.d, cond, Nat.reduceBEq, Nat.reduceAdd, Int.toNat_natCast, List.length_set, List.length_append, List.length_replicate, List.length_take, Nat.reduceSub, Nat.reduceEqDiff, get_loc, setBox_loc, next_eq, List.length_cons, List.length_nil, List.map_cons, List.map_nil, List.append_nil, List.nil_append, List.cons_append, List.set_cons_zero, List.set_cons_succ, getD_zero, getD_succ, List.getElem?_cons_succ, List.getElem?_cons_zero, List.take_succ_cons, List.take_zero, List.drop_succ_cons, List.drop_zero, List.all_cons, List.all_nil, Bool.and_true, Bool.true_and, Option.bind_some, Option.map_some, Option.map_none, decide_eq_true_eq, decide_eq_false_iff_not, ne_eq, Bool.not_eq_true, Bool.not_eq_false, Decidable.not_not, not_true_eq_false, not_false_eq_true, forall_const, false_implies, Bool.true_eq_false, Bool.false_eq_true, reduceCtorEq, decide_true, decide_false, Bool.not_true, Bool.not_false, if_true, if_false, Nat.zero_add, Nat.lt_irrefl, Value.oneCell', gt_iff_lt, Nat.reduceLeDiff, Nat.lt_add_one, List.length_append, vMakeMap, vLookup, vMapUpd, vMapEnt, vEntSt, vRange, vEntry, KK.of, KK.av, lkRes, entry_last, vvar_2, vzero_2, vknd_2, vsn_2, vvar_3, vzero_3, vknd_3, vsn_3, vvar_4, vzero_4, vknd_4, vsn_4, vsl_22, vkn_22, vvar_22, vzero_22, vvar_27, vzero_27, vbld_27, vvar_53, vzero_53, vfld_27_0, vfld_27_1]; try simp (disch := omega) only [wrap64])
    | (with_reducible refine hK' _ ?_; clear hK' K')
    | (with_reducible refine hK _ ?_; clear hK K)
    | ((with_reducible show vCall _ (AVal.fn 57 _) _ _ _); refine vCall_newE (nets57_ac c hx hy _) (show AVal.sl 1 (H ++ []).length 0 _ = .sl 1 (H.length + 0) 0 (nets c).length by simp) ?_)
    | ((with_reducible show vCall _ (AVal.fn 80 _) _ _ _); refine vCall_pure (AC.lent0 (by (repeat' (first | exact trivial | exact LentV.rowL rfl rfl rfl | exact LentV.rowL rfl rfl (by assumption) | refine LentV.boxL rfl ?_ | exact LentV.nil _ | exact LentV.same _ | refine LentV.aggL ?_ | refine And.intro ?_ ?_)); (first | done | fail)) (by (repeat' (first | exact NoRd.v _ | exact NoRd.sl | exact NoRd.mp | exact NoRd.tup nord_nil | refine NoRd.tup ?_ | refine NoRd.agg ?_ | exact nord_nil | refine nord_cons ?_ ?_)); (first | done | fail)) (has80_ac (nets c) _ (by omega) _)) ?_)
    | ((with_reducible show vcC _ 80 _ _ _); refine vcC_pure (AC.lent0 (by (repeat' (first | exact trivial | exact LentV.rowL rfl rfl rfl | exact LentV.rowL rfl rfl (by assumption) | refine LentV.boxL rfl ?_ | exact LentV.nil _ | exact LentV.same _ | refine LentV.aggL ?_ | refine And.intro ?_ ?_)); (first | done | fail)) (by (repeat' (first | exact NoRd.v _ | exact NoRd.sl | exact NoRd.mp | exact NoRd.tup nord_nil | refine NoRd.tup ?_ | refine NoRd.agg ?_ | exact nord_nil | refine nord_cons ?_ ?_)); (first | done | fail)) (has80_ac (nets c) _ (by omega) _)) ?_)
    | (with_reducible refine And.intro (And.intro rfl rfl) ?_)
    | (with_reducible refine And.intro (by omega) ?_)
    | (with_reducible refine And.intro (fun hg => ?_) (fun hg => ?_) <;> first | simp only [eq_false hg, decide_true, decide_false, and_true, true_and, and_false, false_and, not_true_eq_false, not_false_eq_true] | simp only [eq_true hg, decide_true, decide_false, and_true, true_and, and_false, false_and, not_true_eq_false, not_false_eq_true] | simp only [hg, decide_true, decide_false, and_true, true_and, and_false, false_and, not_true_eq_false, not_false_eq_true])
    | (with_reducible refine And.intro rfl (And.intro rfl rfl))
    | (with_reducible refine thenQ_n ?_)
    | (with_reducible refine thenQ_exit ?_)
    | (with_reducible refine thenQ_ret ?_)
    | (with_reducible refine midQ_ret ?_)
    | (with_reducible refine midQ_exit ?_)
    | (with_reducible refine blockQ_same ?_)
    | (with_reducible refine blockQ_ret ?_)
    | (with_reducible refine blockQ_n ?_)
    | (with_reducible refine AW.exit ?_)
    | (with_reducible refine AW.block ?_)
    | (with_reducible refine AW.cond_t rfl ?_)
    | (with_reducible refine AW.cond_f rfl ?_)
    | (with_reducible refine AW.cond_dec rfl (fun hc => ?_) (fun hc => ?_))
    | (with_reducible refine AW.cond rfl (fun hc => ?_) (fun hc => ?_) <;> try simp only [Bool.not_eq_eq_eq_not, Bool.not_true, Bool.not_false, decide_eq_true_eq, decide_eq_false_iff_not] at hc)
    | (with_reducible refine AW.seq ?_)
    | (with_reducible refine AW.skip ?_)
    | (with_reducible refine AW.ret ?_)
    | (with_reducible refine And.intro ?_ ?_)
    | (with_reducible intro hg; first | simp only [eq_false hg, decide_true, decide_false, and_true, true_and, and_false, false_and, not_true_eq_false, not_false_eq_true] | simp only [eq_true hg, decide_true, decide_false, and_true, true_and, and_false, false_and, not_true_eq_false, not_false_eq_true])
    | (with_reducible refine retQ_drop ?_; simp only [vRes, packRes, vLoad, vPart, lk, cond, Nat.reduceBEq, get_loc, getD_zero, getD_succ, true_and, List.length_cons, List.length_nil, Nat.reduceAdd, Nat.reduceLT, Nat.reduceLeDiff, List.take_succ_cons, List.take_zero, List.drop_succ_cons, List.drop_zero, vvar_2, vzero_2, vknd_2, vsn_2, vvar_3, vzero_3, vknd_3, vsn_3, vvar_4, vzero_4, vknd_4, vsn_4, vsl_22, vkn_22, vvar_22, vzero_22, vvar_27, vzero_27, vbld_27, vvar_53, vzero_53, vfld_27_0, vfld_27_1])
    )
  all_goals first
    | (refine ⟨_, _, FinOk.drop hB (Pl.ids (by (repeat' (first | exact Pl.v _ | exact Pl.junk | exact Pl.rd rfl _ | exact pl_nil | refine pl_cons ?_ ?_ | refine Pl.agg ?_ | refine Pl.tup ?_ | refine Pl.rp ?_ | refine Pl.fn ?_)); (first | done | fail))), ?_, rfl⟩
       refine v_bool ?_
       simp only [Bool.false_eq_true, false_iff]
       intro h
       obtain ⟨⟨g1, g2, g3⟩, _⟩ := h
       first
         | exact absurd (by assumption) g1
         | exact absurd g3 (by assumption)
         | exact absurd g2 (by assumption)
         | (have e : b = 0 := by assumption
            exact h0 (e ▸ g3))
         | (have e : a = 0 := by assumption
            exact h0 (e ▸ g2)))
    | skip
  have hnets : AbNets c a b := ⟨by assumption, by assumption, by assumption⟩
  refine AW.loop (fun i : Nat => (⟨61, [(0, .rp [.rd (.int .i64) (c).1, .rd (.int .i64) (c).2] 0), (1, .v (.int .i64 (a))), (2, .v (.int .i64 (b))), (8, .v (.int .i64 ((i : Int))))], H, []⟩ : St)) (fun i => i ≤ c.1.length ∧ ∀ j, j < i → ¬ (a = c.1.getD j 0 ∧ b = c.2.getD j 0)) (fun i => c.1.length - i) 0 ⟨Nat.zero_le _, fun j h => absurd h (by omega)⟩ ?_ ?_
  · exact (Weak.sel [] hB (by decide) (by (repeat' (first | exact trivial | exact RenB.plRow rfl | exact RenB.dead _ | exact RenB.map _ _ | exact RenB.iter rfl | refine And.intro ?_ ?_ | (refine RenB.plBox ?_; (repeat' (first | exact Pl.v _ | exact Pl.junk | exact Pl.rd rfl _ | exact pl_nil | refine pl_cons ?_ ?_ | refine Pl.agg ?_ | refine Pl.tup ?_ | refine Pl.rp ?_ | refine Pl.fn ?_)); (first | done | fail)) | refine RenB.of ?_ | exact RenV.ptr rfl | exact RenV.sl rfl | exact RenV.mp rfl | exact RenV.it rfl | (refine RenV.pl ?_; (repeat' (first | exact Pl.v _ | exact Pl.junk | exact Pl.rd rfl _ | exact pl_nil | refine pl_cons ?_ ?_ | refine Pl.agg ?_ | refine Pl.tup ?_ | refine Pl.rp ?_ | refine Pl.fn ?_)); (first | done | fail)) | refine RenV.aggL ?_ | refine RenV.fnL ?_ | exact Nat.lt_of_sub_pos (by decide) | (simp; (first | done | fail)))); (first | done | fail)) (by (repeat' (first | exact trivial | exact RenV.ptr rfl | exact RenV.sl rfl | exact RenV.mp rfl | exact RenV.it rfl | exact RenV.low (.v _) | exact RenV.low (IdsLt.ptr (by assumption)) | (refine RenV.pl ?_; (repeat' (first | exact Pl.v _ | exact Pl.junk | exact Pl.rd rfl _ | exact pl_nil | refine pl_cons ?_ ?_ | refine Pl.agg ?_ | refine Pl.tup ?_ | refine Pl.rp ?_ | refine Pl.fn ?_)); (first | done | fail)) | refine RenV.fnL ?_ | refine RenV.aggL ?_ | refine And.intro ?_ ?_)); (first | done | fail)))
  intro i ⟨hi, hI⟩
  repeat' (first
    | (with_reducible refine AW.sreg envOk fun K hK => ?_)
    | (with_reducible refine AW.region envOk fun K hK => ?_)
    | (with_reducible refine vcL_nil ?_)
    | (with_reducible refine vcL_cons fun K' hK' => ?_; simp only [vAppend, elems, ↓reduceDIte, List.take_length, Nat.le_refl, List.drop_zero, vGuard, undef, Bool.not_eq_eq_eq_not, dstOk, vcOp, vcF, isPure, putS, vcCall, St.ev, St.put, lk, AVal.ofVal, initS, Nat.reduceLT, true_and, and_true, vBin, vUn, vPick, vConv, vPart, vLoad, vStore, vIdxA, vIdx, vFldA, vExt, vLen, vMin, vNil, vAlloc, vBox, vBuild, vBuildSl, vMake, vSlice, bnd, partsA, fillA, decAll, AVal.flat, AVal.cell, cellsOk, setRange, ETy.enc, ETy.dec, ETy.sz, ETy.d, cond, Nat.reduceBEq, Nat.reduceAdd, Int.toNat_natCast, List.length_set, List.length_append, List.length_replicate, List.length_take, Nat.reduceSub, Nat.reduceEqDiff, get_loc, setBox_loc, next_eq, List.length_cons, List.length_nil, List.map_cons, List.map_nil, List.append_nil, List.nil_append, List.cons_append, List.set_cons_zero, List.set_cons_succ, getD_zero, getD_succ, List.getElem?_cons_succ, List.getElem?_cons_zero, List.take_succ_cons, List.take_zero, List.drop_succ_cons, List.drop_zero, List.all_cons, List.all_nil, Bool.and_true, Bool.true_and, Option.bind_some, Option.map_some, Option.map_none, decide_eq_true_eq, decide_eq_false_iff_not, ne_eq, Bool.not_eq_true, Bool.not_eq_false, Decidable.not_not, not_true_eq_false, not_false_eq_true, forall_const, false_implies, Bool.true_eq_false, Bool.false_eq_true, reduceCtorEq, decide_true, decide_false, Bool.not_true, Bool.not_false, if_true, if_false, Nat.zero_add, Nat.lt_irrefl, Value.oneCell', gt_iff_lt, Nat.reduceLeDiff, Nat.lt_add_one, List.length_append, vMakeMap, vLookup, vMapUpd, vMapEnt, vEntSt, vRange, vEntry, KK.of, KK.av, lkRes, entry_last, vvar_2, vzero_2, vknd_2, vsn_2, vvar_3, vzero_3, vknd_3, vsn_3, vvar_4, vzero_4, vknd_4, vsn_4, vsl_22, vkn_22, vvar_22, vzero_22, vvar_27, vzero_27, vbld_27, vvar_53, vzero_53, vfld_27_0, vfld_27_1]; try simp (disch := omega) only [wrap64])
    | (with_reducible refine hK' _ ?_; clear hK' K')
    | (with_reducible refine hK _ ?_; clear hK K)
    | (with_reducible refine And.intro (And.intro rfl rfl) ?_)
    | (with_reducible refine And.intro (by omega) ?_)
    | (with_reducible refine And.intro (fun hg => ?_) (fun hg => ?_) <;> first | simp only [eq_false hg, decide_true, decide_false, and_true, true_and, and_false, false_and, not_true_eq_false, not_false_eq_true] | simp only [eq_true hg, decide_true, decide_false, and_true, true_and, and_false, false_and, not_true_eq_false, not_false_eq_true] | simp only [hg, decide_true, decide_false, and_true, true_and, and_false, false_and, not_true_eq_false, not_false_eq_true])
    | (with_reducible refine And.intro rfl (And.intro rfl rfl))
    | (with_reducible refine thenQ_n ?_)
    | (with_reducible refine thenQ_exit ?_)
    | (with_reducible refine thenQ_ret ?_)
    | (with_reducible refine midQ_ret ?_)
    | (with_reducible refine midQ_exit ?_)
    | (with_reducible refine blockQ_same ?_)
    | (with_reducible refine blockQ_ret ?_)
    | (with_reducible refine blockQ_n ?_)
    | (with_reducible refine AW.exit ?_)
    | (with_reducible refine AW.block ?_)
    | (with_reducible refine AW.cond_t rfl ?_)
    | (with_reducible refine AW.cond_f rfl ?_)
    | (with_reducible refine AW.cond_dec rfl (fun hc => ?_) (fun hc => ?_))
    | (with_reducible refine AW.cond rfl (fun hc => ?_) (fun hc => ?_) <;> try simp only [Bool.not_eq_eq_eq_not, Bool.not_true, Bool.not_false, decide_eq_true_eq, decide_eq_false_iff_not] at hc)
    | (with_reducible refine AW.seq ?_)
    | (with_reducible refine AW.skip ?_)
    | (with_reducible refine AW.ret ?_)
    | (with_reducible refine And.intro ?_ ?_)
    | (with_reducible intro hg; first | simp only [eq_false hg, decide_true, decide_false, and_true, true_and, and_false, false_and, not_true_eq_false, not_false_eq_true] | simp only [eq_true hg, decide_true, decide_false, and_true, true_and, and_false, false_and, not_true_eq_false, not_false_eq_true])
    | (with_reducible refine retQ_drop ?_; simp only [vRes, packRes, vLoad, vPart, lk, cond, Nat.reduceBEq, get_loc, getD_zero, getD_succ, true_and, List.length_cons, List.length_nil, Nat.reduceAdd, Nat.reduceLT, Nat.reduceLeDiff, List.take_succ_cons, List.take_zero, List.drop_succ_cons, List.drop_zero, vvar_2, vzero_2, vknd_2, vsn_2, vvar_3, vzero_3, vknd_3, vsn_3, vvar_4, vzero_4, vknd_4, vsn_4, vsl_22, vkn_22, vvar_22, vzero_22, vvar_27, vzero_27, vbld_27, vvar_53, vzero_53, vfld_27_0, vfld_27_1])
    )
  · refine ⟨_, _, FinOk.drop hB (Pl.ids (by (repeat' (first | exact Pl.v _ | exact Pl.junk | exact Pl.rd rfl _ | exact pl_nil | refine pl_cons ?_ ?_ | refine Pl.agg ?_ | refine Pl.tup ?_ | refine Pl.rp ?_ | refine Pl.fn ?_)); (first | done | fail))), ?_, rfl⟩
    exact v_bool ⟨fun _ => ⟨hnets, i, by omega, by omega, by omega⟩, fun _ => rfl⟩
  · refine ⟨i + 1, ⟨by omega, fun j hj => ?_⟩, by omega, (Weak.slots (by repeat' first | exact trivial | exact ⟨rfl, trivial⟩ | refine ⟨rfl, ?_⟩))⟩
    by_cases e : j = i
    · subst e; omega
    · exact hI j (by omega)
  · refine ⟨i + 1, ⟨by omega, fun j hj => ?_⟩, by omega, (Weak.slots (by repeat' first | exact trivial | exact ⟨rfl, trivial⟩ | refine ⟨rfl, ?_⟩))⟩
    by_cases e : j = i
    · subst e; omega
    · exact hI j (by omega)
  · refine ⟨_, _, FinOk.drop hB (Pl.ids (by (repeat' (first | exact Pl.v _ | exact Pl.junk | exact Pl.rd rfl _ | exact pl_nil | refine pl_cons ?_ ?_ | refine Pl.agg ?_ | refine Pl.tup ?_ | refine Pl.rp ?_ | refine Pl.fn ?_)); (first | done | fail))), ?_, rfl⟩
    refine v_bool ⟨fun h => absurd h (by decide), fun h => ?_⟩
    obtain ⟨_, j, h1, h2, h3⟩ := h
    exact absurd ⟨h2, h3⟩ (hI j (by omega))
theorem ab_succ (c : Ch) (i : Nat) (a b : Int) : AbTo c (i + 1) a b ↔ AbTo c i a b ∨ (a = c.1.getD i 0 ∧ b = c.2.getD i 0) := by
  constructor
  · rintro ⟨j, hj, h⟩
    by_cases e : j = i
    · subst e; exact .inr h
    · exact .inl ⟨j, by omega, h⟩
  · rintro (⟨j, hj, h⟩ | h)
    · exact ⟨j, by omega, h⟩
    · exact ⟨i, by omega, h⟩
theorem ab_skip {c : Ch} {i : Nat} (h : ¬ AbNets c (c.1.getD i 0) (c.2.getD i 0)) (a b : Int) : (AbNets c a b ∧ AbTo c (i + 1) a b) ↔ (AbNets c a b ∧ AbTo c i a b) := by
  rw [ab_succ]
  constructor
  · rintro ⟨h1, h2 | ⟨e1, e2⟩⟩
    · exact ⟨h1, h2⟩
    · rw [e1, e2] at h1; exact absurd h1 h
  · rintro ⟨h1, h2⟩
    exact ⟨h1, .inl h2⟩
theorem bool_iff {p q : Prop} [Decidable p] [Decidable q] (h : p ↔ q) : Value.bool (decide p) = Value.bool (decide q) := by
  congr 1; exact decide_eq_decide.2 h
theorem above63_ac (c : Ch) (hx : c.1.length ≤ 2000000) (hy : c.2.length = c.1.length) (H : List ABox) : AC Try.prog 63 [.rp [.rd (.int .i64) (c).1, .rd (.int .i64) (c).2] 0] H
    (fun r H' => ∃ es : List ((Int × Int) × Value), (∀ a b : Int, (getK .pt (a, b) es).getD (.bool false) = .bool (decide (AbNets c a b ∧ AbTo c c.1.length a b))) ∧ r = .mp H.length ∧ H' = H ++ [.map .pt es]) := by
  have hn := nets_len c
  refine AC.enter envOk Try.func63 rfl (by decide) Try.ntmps63 Try.results63 (by simp) fun hB => ?_
  repeat' (first
    | (with_reducible refine AW.sreg envOk fun K hK => ?_)
    | (with_reducible refine AW.region envOk fun K hK => ?_)
    | (with_reducible refine vcL_nil ?_)
    | (with_reducible refine vcL_cons fun K' hK' => ?_; simp only [vAppend, elems, ↓reduceDIte, List.take_length, Nat.le_refl, List.drop_zero, vGuard, undef, Bool.not_eq_eq_eq_not, dstOk, vcOp, vcF, isPure, putS, vcCall, St.ev, St.put, lk, AVal.ofVal, initS, Nat.reduceLT, true_and, and_true, vBin, vUn, vPick, vConv, vPart, vLoad, vStore, vIdxA, vIdx, vFldA, vExt, vLen, vMin, vNil, vAlloc, vBox, vBuild, vBuildSl, vMake, vSlice, bnd, partsA, fillA, decAll, AVal.flat, AVal.cell, cellsOk, setRange, ETy.enc, ETy.dec, ETy.sz, ETy.d, cond, Nat.reduceBEq, Nat.reduceAdd, Int.toNat_natCast, List.length_set, List.length_append, List.length_replicate, List.length_take, Nat.reduceSub, Nat.reduceEqDiff, get_loc, setBox_loc, next_eq, List.length_cons, List.length_nil, List.map_cons, List.map_nil, List.append_nil, List.nil_append, List.cons_append, List.set_cons_zero, List.set_cons_succ, getD_zero, getD_succ, List.getElem?_cons_succ, List.getElem?_cons_zero, List.take_succ_cons, List.take_zero, List.drop_succ_cons, List.drop_zero, List.all_cons, List.all_nil, Bool.and_true, Bool.true_and, Option.bind_some, Option.map_some, Option.map_none, decide_eq_true_eq, decide_eq_false_iff_not, ne_eq, Bool.not_eq_true, Bool.not_eq_false, Decidable.not_not, not_true_eq_false, not_false_eq_true, forall_const, false_implies, Bool.true_eq_false, Bool.false_eq_true, reduceCtorEq, decide_true, decide_false, Bool.not_true, Bool.not_false, if_true, if_false, Nat.zero_add, Nat.lt_irrefl, Value.oneCell', gt_iff_lt, Nat.reduceLeDiff, Nat.lt_add_one, List.length_append, vMakeMap, vLookup, vMapUpd, vMapEnt, vEntSt, vRange, vEntry, KK.of, KK.av, lkRes, entry_last, vvar_2, vzero_2, vknd_2, vsn_2, vvar_3, vzero_3, vknd_3, vsn_3, vvar_4, vzero_4, vknd_4, vsn_4, vsl_22, vkn_22, vvar_22, vzero_22, vvar_27, vzero_27, vbld_27, vvar_53, vzero_53, vvar_68, vzero_68, vmp_68, vzero_70, vbld_70, vfld_27_0, vfld_27_1]; try simp (disch := omega) only [wrap64])
    | (with_reducible refine hK' _ ?_; clear hK' K')
    | (with_reducible refine hK _ ?_; clear hK K)
    | ((with_reducible show vCall _ (AVal.fn 58 _) _ _ _); refine vCall_newE (nets58_ac c hx hy _) (by simp only [List.length_append, List.length_cons, List.length_nil, Nat.reduceAdd]; rfl) ?_)
    | (with_reducible refine And.intro (And.intro rfl rfl) ?_)
    | (with_reducible refine And.intro (by omega) ?_)
    | (with_reducible refine And.intro (fun hg => ?_) (fun hg => ?_) <;> first | simp only [eq_false hg, decide_true, decide_false, and_true, true_and, and_false, false_and, not_true_eq_false, not_false_eq_true] | simp only [eq_true hg, decide_true, decide_false, and_true, true_and, and_false, false_and, not_true_eq_false, not_false_eq_true] | simp only [hg, decide_true, decide_false, and_true, true_and, and_false, false_and, not_true_eq_false, not_false_eq_true])
    | (with_reducible refine And.intro rfl (And.intro rfl rfl))
    | (with_reducible refine thenQ_n ?_)
    | (with_reducible refine thenQ_exit ?_)
    | (with_reducible refine thenQ_ret ?_)
    | (with_reducible refine midQ_ret ?_)
    | (with_reducible refine midQ_exit ?_)
    | (with_reducible refine blockQ_same ?_)
    | (with_reducible refine blockQ_ret ?_)
    | (with_reducible refine blockQ_n ?_)
    | (with_reducible refine AW.exit ?_)
    | (with_reducible refine AW.block ?_)
    | (with_reducible refine AW.cond_t rfl ?_)
    | (with_reducible refine AW.cond_f rfl ?_)
    | (with_reducible refine AW.cond_dec rfl (fun hc => ?_) (fun hc => ?_))
    | (with_reducible refine AW.cond rfl (fun hc => ?_) (fun hc => ?_) <;> try simp only [Bool.not_eq_eq_eq_not, Bool.not_true, Bool.not_false, decide_eq_true_eq, decide_eq_false_iff_not] at hc)
    | (with_reducible refine AW.seq ?_)
    | (with_reducible refine AW.skip ?_)
    | (with_reducible refine AW.ret ?_)
    | (with_reducible refine And.intro ?_ ?_)
    | (with_reducible intro hg; first | simp only [eq_false hg, decide_true, decide_false, and_true, true_and, and_false, false_and, not_true_eq_false, not_false_eq_true] | simp only [eq_true hg, decide_true, decide_false, and_true, true_and, and_false, false_and, not_true_eq_false, not_false_eq_true])
    | (with_reducible refine retQ_drop ?_; simp only [vRes, packRes, vLoad, vPart, lk, cond, Nat.reduceBEq, get_loc, getD_zero, getD_succ, true_and, List.length_cons, List.length_nil, Nat.reduceAdd, Nat.reduceLT, Nat.reduceLeDiff, List.take_succ_cons, List.take_zero, List.drop_succ_cons, List.drop_zero, vvar_2, vzero_2, vknd_2, vsn_2, vvar_3, vzero_3, vknd_3, vsn_3, vvar_4, vzero_4, vknd_4, vsn_4, vsl_22, vkn_22, vvar_22, vzero_22, vvar_27, vzero_27, vbld_27, vvar_53, vzero_53, vvar_68, vzero_68, vmp_68, vzero_70, vbld_70, vfld_27_0, vfld_27_1])
    )
  refine AW.loop (fun z : Nat × List ((Int × Int) × Value) => (⟨47, [(0, .rp [.rd (.int .i64) (c).1, .rd (.int .i64) (c).2] 0), (3, .mp (H.length + 0)), (4, .sl 1 (H.length + 1) 0 ((nets c).length)), (14, .rd (.int .i64) (c.1)), (15, .v (.int .i64 ((c.1.length : Int)))), (16, .v (.int .i64 ((z.1 : Int))))], H, [.map .pt z.2, .row false (.int .i64) (nets c)]⟩ : St)) (fun z => z.1 ≤ c.1.length ∧ ∀ a b : Int, (getK .pt (a, b) z.2).getD (.bool false) = .bool (decide (AbNets c a b ∧ AbTo c z.1 a b))) (fun z => c.1.length - z.1) (0, []) ⟨Nat.zero_le _, fun a b => ?_⟩ ?_ ?_
  · rw [decide_eq_false (fun h => by obtain ⟨j, hj, _⟩ := h.2; omega)]; rfl
  · exact (Weak.sel [0, 1] hB (by decide) (by (repeat' (first | exact trivial | exact RenB.plRow rfl | exact RenB.dead _ | exact RenB.map _ _ | exact RenB.iter rfl | refine And.intro ?_ ?_ | (refine RenB.plBox ?_; (repeat' (first | exact Pl.v _ | exact Pl.junk | exact Pl.rd rfl _ | exact pl_nil | refine pl_cons ?_ ?_ | refine Pl.agg ?_ | refine Pl.tup ?_ | refine Pl.rp ?_ | refine Pl.fn ?_)); (first | done | fail)) | refine RenB.of ?_ | exact RenV.ptr rfl | exact RenV.sl rfl | exact RenV.mp rfl | exact RenV.it rfl | (refine RenV.pl ?_; (repeat' (first | exact Pl.v _ | exact Pl.junk | exact Pl.rd rfl _ | exact pl_nil | refine pl_cons ?_ ?_ | refine Pl.agg ?_ | refine Pl.tup ?_ | refine Pl.rp ?_ | refine Pl.fn ?_)); (first | done | fail)) | refine RenV.aggL ?_ | refine RenV.fnL ?_ | exact Nat.lt_of_sub_pos (by decide) | (simp; (first | done | fail)))); (first | done | fail)) (by (repeat' (first | exact trivial | exact RenV.ptr rfl | exact RenV.sl rfl | exact RenV.mp rfl | exact RenV.it rfl | exact RenV.low (.v _) | exact RenV.low (IdsLt.ptr (by assumption)) | (refine RenV.pl ?_; (repeat' (first | exact Pl.v _ | exact Pl.junk | exact Pl.rd rfl _ | exact pl_nil | refine pl_cons ?_ ?_ | refine Pl.agg ?_ | refine Pl.tup ?_ | refine Pl.rp ?_ | refine Pl.fn ?_)); (first | done | fail)) | refine RenV.fnL ?_ | refine RenV.aggL ?_ | refine And.intro ?_ ?_)); (first | done | fail)))
  intro ⟨i, es⟩ ⟨hi, hI⟩
  simp only at hi hI ⊢
  repeat' (first
    | (with_reducible refine AW.sreg envOk fun K hK => ?_)
    | (with_reducible refine AW.region envOk fun K hK => ?_)
    | (with_reducible refine vcL_nil ?_)
    | (with_reducible refine vcL_cons fun K' hK' => ?_; simp only [vAppend, elems, ↓reduceDIte, List.take_length, Nat.le_refl, List.drop_zero, vGuard, undef, Bool.not_eq_eq_eq_not, dstOk, vcOp, vcF, isPure, putS, vcCall, St.ev, St.put, lk, AVal.ofVal, initS, Nat.reduceLT, true_and, and_true, vBin, vUn, vPick, vConv, vPart, vLoad, vStore, vIdxA, vIdx, vFldA, vExt, vLen, vMin, vNil, vAlloc, vBox, vBuild, vBuildSl, vMake, vSlice, bnd, partsA, fillA, decAll, AVal.flat, AVal.cell, cellsOk, setRange, ETy.enc, ETy.dec, ETy.sz, ETy.d, cond, Nat.reduceBEq, Nat.reduceAdd, Int.toNat_natCast, List.length_set, List.length_append, List.length_replicate, List.length_take, Nat.reduceSub, Nat.reduceEqDiff, get_loc, setBox_loc, next_eq, List.length_cons, List.length_nil, List.map_cons, List.map_nil, List.append_nil, List.nil_append, List.cons_append, List.set_cons_zero, List.set_cons_succ, getD_zero, getD_succ, List.getElem?_cons_succ, List.getElem?_cons_zero, List.take_succ_cons, List.take_zero, List.drop_succ_cons, List.drop_zero, List.all_cons, List.all_nil, Bool.and_true, Bool.true_and, Option.bind_some, Option.map_some, Option.map_none, decide_eq_true_eq, decide_eq_false_iff_not, ne_eq, Bool.not_eq_true, Bool.not_eq_false, Decidable.not_not, not_true_eq_false, not_false_eq_true, forall_const, false_implies, Bool.true_eq_false, Bool.false_eq_true, reduceCtorEq, decide_true, decide_false, Bool.not_true, Bool.not_false, if_true, if_false, Nat.zero_add, Nat.lt_irrefl, Value.oneCell', gt_iff_lt, Nat.reduceLeDiff, Nat.lt_add_one, List.length_append, vMakeMap, vLookup, vMapUpd, vMapEnt, vEntSt, vRange, vEntry, KK.of, KK.av, lkRes, entry_last, vvar_2, vzero_2, vknd_2, vsn_2, vvar_3, vzero_3, vknd_3, vsn_3, vvar_4, vzero_4, vknd_4, vsn_4, vsl_22, vkn_22, vvar_22, vzero_22, vvar_27, vzero_27, vbld_27, vvar_53, vzero_53, vvar_68, vzero_68, vmp_68, vzero_70, vbld_70, vfld_27_0, vfld_27_1]; try simp (disch := omega) only [wrap64])
    | (with_reducible refine hK' _ ?_; clear hK' K')
    | (with_reducible refine hK _ ?_; clear hK K)
    | ((with_reducible show vCall _ (AVal.fn 81 _) _ _ _); refine vCall_pure (AC.lent0 (by (repeat' (first | exact trivial | exact LentV.rowL rfl rfl rfl | exact LentV.rowL rfl rfl (by assumption) | refine LentV.boxL rfl ?_ | exact LentV.nil _ | exact LentV.same _ | refine LentV.aggL ?_ | refine And.intro ?_ ?_)); (first | done | fail)) (by (repeat' (first | exact NoRd.v _ | exact NoRd.sl | exact NoRd.mp | exact NoRd.tup nord_nil | refine NoRd.tup ?_ | refine NoRd.agg ?_ | exact nord_nil | refine nord_cons ?_ ?_)); (first | done | fail)) (cont81_ac (nets c) _ (by omega) _)) ?_)
    | ((with_reducible show vcC _ 81 _ _ _); refine vcC_pure (AC.lent0 (by (repeat' (first | exact trivial | exact LentV.rowL rfl rfl rfl | exact LentV.rowL rfl rfl (by assumption) | refine LentV.boxL rfl ?_ | exact LentV.nil _ | exact LentV.same _ | refine LentV.aggL ?_ | refine And.intro ?_ ?_)); (first | done | fail)) (by (repeat' (first | exact NoRd.v _ | exact NoRd.sl | exact NoRd.mp | exact NoRd.tup nord_nil | refine NoRd.tup ?_ | refine NoRd.agg ?_ | exact nord_nil | refine nord_cons ?_ ?_)); (first | done | fail)) (cont81_ac (nets c) _ (by omega) _)) ?_)
    | (with_reducible refine And.intro (And.intro rfl rfl) ?_)
    | (with_reducible refine And.intro (by omega) ?_)
    | (with_reducible refine And.intro (fun hg => ?_) (fun hg => ?_) <;> first | simp only [eq_false hg, decide_true, decide_false, and_true, true_and, and_false, false_and, not_true_eq_false, not_false_eq_true] | simp only [eq_true hg, decide_true, decide_false, and_true, true_and, and_false, false_and, not_true_eq_false, not_false_eq_true] | simp only [hg, decide_true, decide_false, and_true, true_and, and_false, false_and, not_true_eq_false, not_false_eq_true])
    | (with_reducible refine And.intro rfl (And.intro rfl rfl))
    | (with_reducible refine thenQ_n ?_)
    | (with_reducible refine thenQ_exit ?_)
    | (with_reducible refine thenQ_ret ?_)
    | (with_reducible refine midQ_ret ?_)
    | (with_reducible refine midQ_exit ?_)
    | (with_reducible refine blockQ_same ?_)
    | (with_reducible refine blockQ_ret ?_)
    | (with_reducible refine blockQ_n ?_)
    | (with_reducible refine AW.exit ?_)
    | (with_reducible refine AW.block ?_)
    | (with_reducible refine AW.cond_t rfl ?_)
    | (with_reducible refine AW.cond_f rfl ?_)
    | (with_reducible refine AW.cond_dec rfl (fun hc => ?_) (fun hc => ?_))
    | (with_reducible refine AW.cond rfl (fun hc => ?_) (fun hc => ?_) <;> try simp only [Bool.not_eq_eq_eq_not, Bool.not_true, Bool.not_false, decide_eq_true_eq, decide_eq_false_iff_not] at hc)
    | (with_reducible refine AW.seq ?_)
    | (with_reducible refine AW.skip ?_)
    | (with_reducible refine AW.ret ?_)
    | (with_reducible refine And.intro ?_ ?_)
    | (with_reducible intro hg; first | simp only [eq_false hg, decide_true, decide_false, and_true, true_and, and_false, false_and, not_true_eq_false, not_false_eq_true] | simp only [eq_true hg, decide_true, decide_false, and_true, true_and, and_false, false_and, not_true_eq_false, not_false_eq_true])
    | (with_reducible refine retQ_drop ?_; simp only [vRes, packRes, vLoad, vPart, lk, cond, Nat.reduceBEq, get_loc, getD_zero, getD_succ, true_and, List.length_cons, List.length_nil, Nat.reduceAdd, Nat.reduceLT, Nat.reduceLeDiff, List.take_succ_cons, List.take_zero, List.drop_succ_cons, List.drop_zero, vvar_2, vzero_2, vknd_2, vsn_2, vvar_3, vzero_3, vknd_3, vsn_3, vvar_4, vzero_4, vknd_4, vsn_4, vsl_22, vkn_22, vvar_22, vzero_22, vvar_27, vzero_27, vbld_27, vvar_53, vzero_53, vvar_68, vzero_68, vmp_68, vzero_70, vbld_70, vfld_27_0, vfld_27_1])
    )
  · refine ⟨(i + 1, putK .pt (c.1.getD i 0, c.2.getD i 0) (.bool true) es), ⟨by simp only; omega, fun a b => ?_⟩, by simp only; omega, (Weak.slots (by repeat' first | exact trivial | exact ⟨rfl, trivial⟩ | refine ⟨rfl, ?_⟩))⟩
    have hnets : AbNets c (c.1.getD i 0) (c.2.getD i 0) := ⟨by assumption, by assumption, by assumption⟩
    simp only [get_put]
    by_cases e : (a, b) = (c.1.getD i 0, c.2.getD i 0)
    · rw [if_pos e]
      cases e
      rw [decide_eq_true ⟨hnets, (ab_succ c i _ _).2 (.inr ⟨rfl, rfl⟩)⟩]; rfl
    · rw [if_neg e, hI]
      refine bool_iff ?_
      rw [ab_succ]
      constructor
      · rintro ⟨h1, h2⟩; exact ⟨h1, .inl h2⟩
      · rintro ⟨h1, h2 | ⟨e1, e2⟩⟩
        · exact ⟨h1, h2⟩
        · exact absurd (by rw [e1, e2]) e
  iterate 3
    refine ⟨(i + 1, es), ⟨by simp only; omega, fun a b => ?_⟩, by simp only; omega, (Weak.slots (by repeat' first | exact trivial | exact ⟨rfl, trivial⟩ | refine ⟨rfl, ?_⟩))⟩
    rw [hI]
    exact bool_iff (ab_skip (fun h => by obtain ⟨h1, h2, h3⟩ := h; first | exact absurd (by assumption) h1 | exact absurd h2 (by assumption) | exact absurd h3 (by assumption)) a b).symm
  obtain rfl : i = c.1.length := by omega
  exact ⟨_, _, FinOk.keep [0] (L := [.map .pt es]) hB (by decide) ⟨RenB.map _ _, by simp, trivial⟩ (RenV.mp (j := 0) rfl), es, hI, rfl, rfl⟩
theorem AC.lentEx {ι : Type} {F F' : ι → AVal} {N : ι → List ABox} {Φ : ι → Prop} {f : FuncId} {args args' : List AVal} {H : List ABox} (hF : ∀ x, F x = F' x) (ha : LentL H args args') (hX : ∀ x, Φ x → NoRd (F x)) (hnew : ∀ x, Φ x → ∀ Z ∈ N x, NoRdW Z)
    (h : AC Try.prog f args' (killAll H) (fun r H' => ∃ x, Φ x ∧ r = F x ∧ H' = killAll H ++ N x)) : AC Try.prog f args H (fun r H' => ∃ x, Φ x ∧ r = F' x ∧ H' = H ++ N x) :=
  (AC.lentE ha hX hnew h).mono fun r H' ⟨x, h1, h2, h3⟩ => ⟨x, h1, h2.trans (hF x), h3⟩
theorem vCall_exN {ι : Type} {Φ : ι → Prop} {F : ι → AVal} {Nw : ι → List ABox} {f : FuncId} {args : List AVal} {N : Nat} {s : List (Nat × AVal)} {b l : List ABox} {k : AVal → List ABox → List ABox → Prop}
    (h : AC Try.prog f args (b ++ l) (fun r H' => ∃ x, Φ x ∧ r = F x ∧ H' = (b ++ l) ++ Nw x)) (hk : ∀ x, Φ x → k (F x) b (l ++ Nw x)) : vCall Try.prog (.fn f []) args ⟨N, s, b, l⟩ k := by
  show AC Try.prog f (args ++ []) (b ++ l) _
  rw [List.append_nil]
  exact h.mono fun r H' ⟨x, h1, h2, h3⟩ => ⟨b, l ++ Nw x, by rw [h3, List.append_assoc], rfl, h2 ▸ hk x h1⟩
noncomputable instance (c : Ch) (a b : Int) : Decidable (ChOk c ∧ Above c a b) := Classical.propDecidable _
theorem spec31_ac (c : Ch) (a b : Int) (hx : c.1.length ≤ 2000000) (hy : c.2.length ≤ 2000000) (H : List ABox) : AC Try.prog 31 [.agg [.rd (.int .i64) (c).1, .rd (.int .i64) (c).2], .v (.int .i64 (a)), .v (.int .i64 (b))] H (fun r H' => r = .v (.bool (decide (ChOk c ∧ Above c a b))) ∧ H' = H) := by
  refine AC.enter envOk Try.func31 rfl (by decide) Try.ntmps31 Try.results31 (by simp) fun hB => ?_
  repeat' (first
    | (with_reducible refine AW.sreg envOk fun K hK => ?_)
    | (with_reducible refine AW.region envOk fun K hK => ?_)
    | (with_reducible refine vcL_nil ?_)
    | (with_reducible refine vcL_cons fun K' hK' => ?_; simp only [vAppend, elems, ↓reduceDIte, List.take_length, Nat.le_refl, List.drop_zero, vGuard, undef, Bool.not_eq_eq_eq_not, dstOk, vcOp, vcF, isPure, putS, vcCall, St.ev, St.put, lk, AVal.ofVal, initS, Nat.reduceLT, true_and, and_true, vBin, vUn, vPick, vConv, vPart, vLoad, vStore, vIdxA, vIdx, vFldA, vExt, vLen, vMin, vNil, vAlloc, vBox, vBuild, vBuildSl, vMake, vSlice, bnd, partsA, fillA, decAll, AVal.flat, AVal.cell, cellsOk, setRange, ETy.enc, ETy.dec, ETy.sz, ETy.d, cond, Nat.reduceBEq, Nat.reduceAdd, Int.toNat_natCast, List.length_set, List.length_append, List.length_replicate, List.length_take, Nat.reduceSub, Nat.reduceEqDiff, get_loc, setBox_loc, next_eq, List.length_cons, List.length_nil, List.map_cons, List.map_nil, List.append_nil, List.nil_append, List.cons_append, List.set_cons_zero, List.set_cons_succ, getD_zero, getD_succ, List.getElem?_cons_succ, List.getElem?_cons_zero, List.take_succ_cons, List.take_zero, List.drop_succ_cons, List.drop_zero, List.all_cons, List.all_nil, Bool.and_true, Bool.true_and, Option.bind_some, Option.map_some, Option.map_none, decide_eq_true_eq, decide_eq_false_iff_not, ne_eq, Bool.not_eq_true, Bool.not_eq_false, Decidable.not_not, not_true_eq_false, not_false_eq_true, forall_const, false_implies, Bool.true_eq_false, Bool.false_eq_true, reduceCtorEq, decide_true, decide_false, Bool.not_true, Bool.not_false, if_true, if_false, Nat.zero_add, Nat.lt_irrefl, Value.oneCell', gt_iff_lt, Nat.reduceLeDiff, Nat.lt_add_one, List.length_append, vMakeMap, vLookup, vMapUpd, vMapEnt, vEntSt, vRange, vEntry, KK.of, KK.av, lkRes, entry_last, vvar_2, vzero_2, vknd_2, vsn_2, vvar_4, vzero_4, vknd_4, vsn_4, vvar_27, vzero_27, vbld_27]; try simp (disch := omega) only [wrap64])
    | (with_reducible refine hK' _ ?_; clear hK' K')
    | (with_reducible refine hK _ ?_; clear hK K)
    | ((with_reducible show vCall _ (AVal.fn 49 _) _ _ _); refine vCall_pure (AC.lent0 (by (repeat' (first | exact trivial | exact LentV.rowL rfl rfl rfl | exact LentV.rowL rfl rfl (by assumption) | refine LentV.boxL rfl ?_ | exact LentV.nil _ | exact LentV.same _ | refine LentV.aggL ?_ | refine And.intro ?_ ?_)); (first | done | fail)) (by (repeat' (first | exact NoRd.v _ | exact NoRd.sl | exact NoRd.mp | exact NoRd.tup nord_nil | refine NoRd.tup ?_ | refine NoRd.agg ?_ | exact nord_nil | refine nord_cons ?_ ?_)); (first | done | fail)) (is49_ac c (by omega) (by omega) _)) ?_)
    | ((with_reducible show vcC _ 49 _ _ _); refine vcC_pure (AC.lent0 (by (repeat' (first | exact trivial | exact LentV.rowL rfl rfl rfl | exact LentV.rowL rfl rfl (by assumption) | refine LentV.boxL rfl ?_ | exact LentV.nil _ | exact LentV.same _ | refine LentV.aggL ?_ | refine And.intro ?_ ?_)); (first | done | fail)) (by (repeat' (first | exact NoRd.v _ | exact NoRd.sl | exact NoRd.mp | exact NoRd.tup nord_nil | refine NoRd.tup ?_ | refine NoRd.agg ?_ | exact nord_nil | refine nord_cons ?_ ?_)); (first | done | fail)) (is49_ac c (by omega) (by omega) _)) ?_)
    | ((with_reducible show vCall _ (AVal.fn 62 _) _ _ _); refine vCall_pure (AC.lent0 (by (repeat' (first | exact trivial | exact LentV.rowL rfl rfl rfl | exact LentV.rowL rfl rfl (by assumption) | refine LentV.boxL rfl ?_ | exact LentV.nil _ | exact LentV.same _ | refine LentV.aggL ?_ | refine And.intro ?_ ?_)); (first | done | fail)) (by (repeat' (first | exact NoRd.v _ | exact NoRd.sl | exact NoRd.mp | exact NoRd.tup nord_nil | refine NoRd.tup ?_ | refine NoRd.agg ?_ | exact nord_nil | refine nord_cons ?_ ?_)); (first | done | fail)) (above62_ac c a b hx (by have hk : ChOk c := (by assumption); exact hk.1.2.2) _)) ?_)
    | ((with_reducible show vcC _ 62 _ _ _); refine vcC_pure (AC.lent0 (by (repeat' (first | exact trivial | exact LentV.rowL rfl rfl rfl | exact LentV.rowL rfl rfl (by assumption) | refine LentV.boxL rfl ?_ | exact LentV.nil _ | exact LentV.same _ | refine LentV.aggL ?_ | refine And.intro ?_ ?_)); (first | done | fail)) (by (repeat' (first | exact NoRd.v _ | exact NoRd.sl | exact NoRd.mp | exact NoRd.tup nord_nil | refine NoRd.tup ?_ | refine NoRd.agg ?_ | exact nord_nil | refine nord_cons ?_ ?_)); (first | done | fail)) (above62_ac c a b hx (by have hk : ChOk c := (by assumption); exact hk.1.2.2) _)) ?_)
    | (with_reducible refine And.intro (And.intro rfl rfl) ?_)
    | (with_reducible refine And.intro (by omega) ?_)
    | (with_reducible refine And.intro (fun hg => ?_) (fun hg => ?_) <;> first | simp only [eq_false hg, decide_true, decide_false, and_true, true_and, and_false, false_and, not_true_eq_false, not_false_eq_true] | simp only [eq_true hg, decide_true, decide_false, and_true, true_and, and_false, false_and, not_true_eq_false, not_false_eq_true] | simp only [hg, decide_true, decide_false, and_true, true_and, and_false, false_and, not_true_eq_false, not_false_eq_true])
    | (with_reducible refine And.intro rfl (And.intro rfl rfl))
    | (with_reducible refine thenQ_n ?_)
    | (with_reducible refine thenQ_exit ?_)
    | (with_reducible refine thenQ_ret ?_)
    | (with_reducible refine midQ_ret ?_)
    | (with_reducible refine midQ_exit ?_)
    | (with_reducible refine blockQ_same ?_)
    | (with_reducible refine blockQ_ret ?_)
    | (with_reducible refine blockQ_n ?_)
    | (with_reducible refine AW.exit ?_)
    | (with_reducible refine AW.block ?_)
    | (with_reducible refine AW.cond_t rfl ?_)
    | (with_reducible refine AW.cond_f rfl ?_)
    | (with_reducible refine AW.cond_dec rfl (fun hc => ?_) (fun hc => ?_))
    | (with_reducible refine AW.cond rfl (fun hc => ?_) (fun hc => ?_) <;> try simp only [Bool.not_eq_eq_eq_not, Bool.not_true, Bool.not_false, decide_eq_true_eq, decide_eq_false_iff_not] at hc)
    | (with_reducible refine AW.seq ?_)
    | (with_reducible refine AW.skip ?_)
    | (with_reducible refine AW.ret ?_)
    | (with_reducible refine And.intro ?_ ?_)
    | (with_reducible intro hg; first | simp only [eq_false hg, decide_true, decide_false, and_true, true_and, and_false, false_and, not_true_eq_false, not_false_eq_true] | simp only [eq_true hg, decide_true, decide_false, and_true, true_and, and_false, false_and, not_true_eq_false, not_false_eq_true])
    | (with_reducible refine retQ_drop ?_; simp only [vRes, packRes, vLoad, vPart, lk, cond, Nat.reduceBEq, get_loc, getD_zero, getD_succ, true_and, List.length_cons, List.length_nil, Nat.reduceAdd, Nat.reduceLT, Nat.reduceLeDiff, List.take_succ_cons, List.take_zero, List.drop_succ_cons, List.drop_zero, vvar_2, vzero_2, vknd_2, vsn_2, vvar_4, vzero_4, vknd_4, vsn_4, vvar_27, vzero_27, vbld_27])
    )
  all_goals refine ⟨_, _, FinOk.drop hB (Pl.ids (by (repeat' (first | exact Pl.v _ | exact Pl.junk | exact Pl.rd rfl _ | exact pl_nil | refine pl_cons ?_ ?_ | refine Pl.agg ?_ | refine Pl.tup ?_ | refine Pl.rp ?_ | refine Pl.fn ?_)); (first | done | fail))), ?_, rfl⟩
  · refine v_bool ?_
    rw [decide_eq_true_eq]
    exact ⟨fun h => ⟨by assumption, h⟩, fun h => h.2⟩
  · exact v_bool ⟨fun h => absurd h (by decide), fun h => absurd h.1 (by assumption)⟩
theorem impl32_ac (c : Ch) (a b : Int) (hx : c.1.length ≤ 2000000) (hy : c.2.length ≤ 2000000) (H : List ABox) : AC Try.prog 32 [.agg [.rd (.int .i64) (c).1, .rd (.int .i64) (c).2], .v (.int .i64 (a)), .v (.int .i64 (b))] H (fun r H' => r = .v (.bool (decide (ChOk c ∧ Above c a b))) ∧ H' = H) := by
  by_cases hok : ChOk c
  · have hd : decide (ChOk c) = true := decide_eq_true hok
    refine AC.enter envOk Try.func32 rfl (by decide) Try.ntmps32 Try.results32 (by simp) fun hB => ?_
    repeat' (first
      | (with_reducible refine AW.sreg envOk fun K hK => ?_)
      | (with_reducible refine AW.region envOk fun K hK => ?_)
      | (with_reducible refine vcL_nil ?_)
      | (with_reducible refine vcL_cons fun K' hK' => ?_; simp only [vAppend, elems, ↓reduceDIte, List.take_length, Nat.le_refl, List.drop_zero, vGuard, undef, Bool.not_eq_eq_eq_not, dstOk, vcOp, vcF, isPure, putS, vcCall, St.ev, St.put, lk, AVal.ofVal, initS, Nat.reduceLT, true_and, and_true, vBin, vUn, vPick, vConv, vPart, vLoad, vStore, vIdxA, vIdx, vFldA, vExt, vLen, vMin, vNil, vAlloc, vBox, vBuild, vBuildSl, vMake, vSlice, bnd, partsA, fillA, decAll, AVal.flat, AVal.cell, cellsOk, setRange, ETy.enc, ETy.dec, ETy.sz, ETy.d, cond, Nat.reduceBEq, Nat.reduceAdd, Int.toNat_natCast, List.length_set, List.length_append, List.length_replicate, List.length_take, Nat.reduceSub, Nat.reduceEqDiff, get_loc, setBox_loc, next_eq, List.length_cons, List.length_nil, List.map_cons, List.map_nil, List.append_nil, List.nil_append, List.cons_append, List.set_cons_zero, List.set_cons_succ, getD_zero, getD_succ, List.getElem?_cons_succ, List.getElem?_cons_zero, List.take_succ_cons, List.take_zero, List.drop_succ_cons, List.drop_zero, List.all_cons, List.all_nil, Bool.and_true, Bool.true_and, Option.bind_some, Option.map_some, Option.map_none, decide_eq_true_eq, decide_eq_false_iff_not, ne_eq, Bool.not_eq_true, Bool.not_eq_false, Decidable.not_not, not_true_eq_false, not_false_eq_true, forall_const, false_implies, Bool.true_eq_false, Bool.false_eq_true, reduceCtorEq, decide_true, decide_false, Bool.not_true, Bool.not_false, if_true, if_false, Nat.zero_add, Nat.lt_irrefl, Value.oneCell', gt_iff_lt, Nat.reduceLeDiff, Nat.lt_add_one, List.length_append, vMakeMap, vLookup, vMapUpd, vMapEnt, vEntSt, vRange, vEntry, KK.of, KK.av, lkRes, entry_last, vvar_2, vzero_2, vknd_2, vsn_2, vvar_4, vzero_4, vknd_4, vsn_4, vvar_27, vzero_27, vbld_27, vvar_68, vzero_68, vmp_68, vzero_70, vbld_70, hd]; try simp (disch := omega) only [wrap64])
      | (with_reducible refine hK' _ ?_; clear hK' K')
      | (with_reducible refine hK _ ?_; clear hK K)
      | ((with_reducible show vCall _ (AVal.fn 17 _) _ _ _); refine vCall_pure (is17_ac c (by omega) (by omega) _) ?_)
      | ((with_reducible show vcC _ 17 _ _ _); refine vcC_pure (is17_ac c (by omega) (by omega) _) ?_)
      | (with_reducible refine And.intro (And.intro rfl rfl) ?_)
      | (with_reducible refine And.intro (by omega) ?_)
      | (with_reducible refine And.intro (fun hg => ?_) (fun hg => ?_) <;> first | simp only [eq_false hg, decide_true, decide_false, and_true, true_and, and_false, false_and, not_true_eq_false, not_false_eq_true] | simp only [eq_true hg, decide_true, decide_false, and_true, true_and, and_false, false_and, not_true_eq_false, not_false_eq_true] | simp only [hg, decide_true, decide_false, and_true, true_and, and_false, false_and, not_true_eq_false, not_false_eq_true])
      | (with_reducible refine And.intro rfl (And.intro rfl rfl))
      | (with_reducible refine thenQ_n ?_)
      | (with_reducible refine thenQ_exit ?_)
      | (with_reducible refine thenQ_ret ?_)
      | (with_reducible refine midQ_ret ?_)
      | (with_reducible refine midQ_exit ?_)
      | (with_reducible refine blockQ_same ?_)
      | (with_reducible refine blockQ_ret ?_)
      | (with_reducible refine blockQ_n ?_)
      | (with_reducible refine AW.exit ?_)
      | (with_reducible refine AW.block ?_)
      | (with_reducible refine AW.cond_t rfl ?_)
      | (with_reducible refine AW.cond_f rfl ?_)
      | (with_reducible refine AW.cond_dec rfl (fun hc => ?_) (fun hc => ?_))
      | (with_reducible refine AW.cond rfl (fun hc => ?_) (fun hc => ?_) <;> try simp only [Bool.not_eq_eq_eq_not, Bool.not_true, Bool.not_false, decide_eq_true_eq, decide_eq_false_iff_not] at hc)
      | (with_reducible refine AW.seq ?_)
      | (with_reducible refine AW.skip ?_)
      | (with_reducible refine AW.ret ?_)
      | (with_reducible refine And.intro ?_ ?_)
      | (with_reducible intro hg; first | simp only [eq_false hg, decide_true, decide_false, and_true, true_and, and_false, false_and, not_true_eq_false, not_false_eq_true] | simp only [eq_true hg, decide_true, decide_false, and_true, true_and, and_false, false_and, not_true_eq_false, not_false_eq_true])
      | (with_reducible refine retQ_drop ?_; simp only [vRes, packRes, vLoad, vPart, lk, cond, Nat.reduceBEq, get_loc, getD_zero, getD_succ, true_and, List.length_cons, List.length_nil, Nat.reduceAdd, Nat.reduceLT, Nat.reduceLeDiff, List.take_succ_cons, List.take_zero, List.drop_succ_cons, List.drop_zero, vvar_2, vzero_2, vknd_2, vsn_2, vvar_4, vzero_4, vknd_4, vsn_4, vvar_27, vzero_27, vbld_27, vvar_68, vzero_68, vmp_68, vzero_70, vbld_70])
      )
    refine vCall_exN (AC.lentEx (F' := fun _ => .mp (H.length + 1)) (fun x => by simp only [killAll_length, List.length_append, List.length_cons, List.length_nil, Nat.reduceAdd]) (by (repeat' (first | exact trivial | exact LentV.rowL rfl rfl rfl | exact LentV.rowL rfl rfl (by assumption) | refine LentV.boxL rfl ?_ | exact LentV.nil _ | exact LentV.same _ | refine LentV.aggL ?_ | refine And.intro ?_ ?_)); (first | done | fail)) (fun x _ => (by (repeat' (first | exact NoRd.v _ | exact NoRd.sl | exact NoRd.mp | exact NoRd.tup nord_nil | refine NoRd.tup ?_ | refine NoRd.agg ?_ | exact nord_nil | refine nord_cons ?_ ?_)); (first | done | fail))) (fun x _ => (by (repeat' (first | exact nordW_nil | refine nordW_cons ?_ ?_ | exact And.intro rfl rfl | exact trivial)); (first | done | fail))) (above63_ac c hx hok.1.2.2 _)) (fun es hes => ?_)
    have he := hes a b
    repeat' (first
      | (with_reducible refine AW.sreg envOk fun K hK => ?_)
      | (with_reducible refine AW.region envOk fun K hK => ?_)
      | (with_reducible refine vcL_nil ?_)
      | (with_reducible refine vcL_cons fun K' hK' => ?_; simp only [vAppend, elems, ↓reduceDIte, List.take_length, Nat.le_refl, List.drop_zero, vGuard, undef, Bool.not_eq_eq_eq_not, dstOk, vcOp, vcF, isPure, putS, vcCall, St.ev, St.put, lk, AVal.ofVal, initS, Nat.reduceLT, true_and, and_true, vBin, vUn, vPick, vConv, vPart, vLoad, vStore, vIdxA, vIdx, vFldA, vExt, vLen, vMin, vNil, vAlloc, vBox, vBuild, vBuildSl, vMake, vSlice, bnd, partsA, fillA, decAll, AVal.flat, AVal.cell, cellsOk, setRange, ETy.enc, ETy.dec, ETy.sz, ETy.d, cond, Nat.reduceBEq, Nat.reduceAdd, Int.toNat_natCast, List.length_set, List.length_append, List.length_replicate, List.length_take, Nat.reduceSub, Nat.reduceEqDiff, get_loc, setBox_loc, next_eq, List.length_cons, List.length_nil, List.map_cons, List.map_nil, List.append_nil, List.nil_append, List.cons_append, List.set_cons_zero, List.set_cons_succ, getD_zero, getD_succ, List.getElem?_cons_succ, List.getElem?_cons_zero, List.take_succ_cons, List.take_zero, List.drop_succ_cons, List.drop_zero, List.all_cons, List.all_nil, Bool.and_true, Bool.true_and, Option.bind_some, Option.map_some, Option.map_none, decide_eq_true_eq, decide_eq_false_iff_not, ne_eq, Bool.not_eq_true, Bool.not_eq_false, Decidable.not_not, not_true_eq_false, not_false_eq_true, forall_const, false_implies, Bool.true_eq_false, Bool.false_eq_true, reduceCtorEq, decide_true, decide_false, Bool.not_true, Bool.not_false, if_true, if_false, Nat.zero_add, Nat.lt_irrefl, Value.oneCell', gt_iff_lt, Nat.reduceLeDiff, Nat.lt_add_one, List.length_append, vMakeMap, vLookup, vMapUpd, vMapEnt, vEntSt, vRange, vEntry, KK.of, KK.av, lkRes, entry_last, vvar_2, vzero_2, vknd_2, vsn_2, vvar_4, vzero_4, vknd_4, vsn_4, vvar_27, vzero_27, vbld_27, vvar_68, vzero_68, vmp_68, vzero_70, vbld_70, he]; try simp (disch := omega) only [wrap64])
      | (with_reducible refine hK' _ ?_; clear hK' K')
      | (with_reducible refine hK _ ?_; clear hK K)
      | (with_reducible refine And.intro (And.intro rfl rfl) ?_)
      | (with_reducible refine And.intro (by omega) ?_)
      | (with_reducible refine And.intro (fun hg => ?_) (fun hg => ?_) <;> first | simp only [eq_false hg, decide_true, decide_false, and_true, true_and, and_false, false_and, not_true_eq_false, not_false_eq_true] | simp only [eq_true hg, decide_true, decide_false, and_true, true_and, and_false, false_and, not_true_eq_false, not_false_eq_true] | simp only [hg, decide_true, decide_false, and_true, true_and, and_false, false_and, not_true_eq_false, not_false_eq_true])
      | (with_reducible refine And.intro rfl (And.intro rfl rfl))
      | (with_reducible refine thenQ_n ?_)
      | (with_reducible refine thenQ_exit ?_)
      | (with_reducible refine thenQ_ret ?_)
      | (with_reducible refine midQ_ret ?_)
      | (with_reducible refine midQ_exit ?_)
      | (with_reducible refine blockQ_same ?_)
      | (with_reducible refine blockQ_ret ?_)
      | (with_reducible refine blockQ_n ?_)
      | (with_reducible refine AW.exit ?_)
      | (with_reducible refine AW.block ?_)
      | (with_reducible refine AW.cond_t rfl ?_)
      | (with_reducible refine AW.cond_f rfl ?_)
      | (with_reducible refine AW.cond_dec rfl (fun hc => ?_) (fun hc => ?_))
      | (with_reducible refine AW.cond rfl (fun hc => ?_) (fun hc => ?_) <;> try simp only [Bool.not_eq_eq_eq_not, Bool.not_true, Bool.not_false, decide_eq_true_eq, decide_eq_false_iff_not] at hc)
      | (with_reducible refine AW.seq ?_)
      | (with_reducible refine AW.skip ?_)
      | (with_reducible refine AW.ret ?_)
      | (with_reducible refine And.intro ?_ ?_)
      | (with_reducible intro hg; first | simp only [eq_false hg, decide_true, decide_false, and_true, true_and, and_false, false_and, not_true_eq_false, not_false_eq_true] | simp only [eq_true hg, decide_true, decide_false, and_true, true_and, and_false, false_and, not_true_eq_false, not_false_eq_true])
      | (with_reducible refine retQ_drop ?_; simp only [vRes, packRes, vLoad, vPart, lk, cond, Nat.reduceBEq, get_loc, getD_zero, getD_succ, true_and, List.length_cons, List.length_nil, Nat.reduceAdd, Nat.reduceLT, Nat.reduceLeDiff, List.take_succ_cons, List.take_zero, List.drop_succ_cons, List.drop_zero, vvar_2, vzero_2, vknd_2, vsn_2, vvar_4, vzero_4, vknd_4, vsn_4, vvar_27, vzero_27, vbld_27, vvar_68, vzero_68, vmp_68, vzero_70, vbld_70])
      )
    refine ⟨_, _, FinOk.drop hB (Pl.ids (by (repeat' (first | exact Pl.v _ | exact Pl.junk | exact Pl.rd rfl _ | exact pl_nil | refine pl_cons ?_ ?_ | refine Pl.agg ?_ | refine Pl.tup ?_ | refine Pl.rp ?_ | refine Pl.fn ?_)); (first | done | fail))), ?_, rfl⟩
    refine v_bool ?_
    rw [decide_eq_true_eq]
    exact ⟨fun h => ⟨hok, h⟩, fun h => h.2⟩
  ·
    have hd : decide (ChOk c) = false := decide_eq_false hok
    refine AC.enter envOk Try.func32 rfl (by decide) Try.ntmps32 Try.results32 (by simp) fun hB => ?_
    repeat' (first
      | (with_reducible refine AW.sreg envOk fun K hK => ?_)
      | (with_reducible refine AW.region envOk fun K hK => ?_)
      | (with_reducible refine vcL_nil ?_)
      | (with_reducible refine vcL_cons fun K' hK' => ?_; simp only [vAppend, elems, ↓reduceDIte, List.take_length, Nat.le_refl, List.drop_zero, vGuard, undef, Bool.not_eq_eq_eq_not, dstOk, vcOp, vcF, isPure, putS, vcCall, St.ev, St.put, lk, AVal.ofVal, initS, Nat.reduceLT, true_and, and_true, vBin, vUn, vPick, vConv, vPart, vLoad, vStore, vIdxA, vIdx, vFldA, vExt, vLen, vMin, vNil, vAlloc, vBox, vBuild, vBuildSl, vMake, vSlice, bnd, partsA, fillA, decAll, AVal.flat, AVal.cell, cellsOk, setRange, ETy.enc, ETy.dec, ETy.sz, ETy.d, cond, Nat.reduceBEq, Nat.reduceAdd, Int.toNat_natCast, List.length_set, List.length_append, List.length_replicate, List.length_take, Nat.reduceSub, Nat.reduceEqDiff, get_loc, setBox_loc, next_eq, List.length_cons, List.length_nil, List.map_cons, List.map_nil, List.append_nil, List.nil_append, List.cons_append, List.set_cons_zero, List.set_cons_succ, getD_zero, getD_succ, List.getElem?_cons_succ, List.getElem?_cons_zero, List.take_succ_cons, List.take_zero, List.drop_succ_cons, List.drop_zero, List.all_cons, List.all_nil, Bool.and_true, Bool.true_and, Option.bind_some, Option.map_some, Option.map_none, decide_eq_true_eq, decide_eq_false_iff_not, ne_eq, Bool.not_eq_true, Bool.not_eq_false, Decidable.not_not, not_true_eq_false, not_false_eq_true, forall_const, false_implies, Bool.true_eq_false, Bool.false_eq_true, reduceCtorEq, decide_true, decide_false, Bool.not_true, Bool.not_false, if_true, if_false, Nat.zero_add, Nat.lt_irrefl, Value.oneCell', gt_iff_lt, Nat.reduceLeDiff, Nat.lt_add_one, List.length_append, vMakeMap, vLookup, vMapUpd, vMapEnt, vEntSt, vRange, vEntry, KK.of, KK.av, lkRes, entry_last, vvar_2, vzero_2, vknd_2, vsn_2, vvar_4, vzero_4, vknd_4, vsn_4, vvar_27, vzero_27, vbld_27, vvar_68, vzero_68, vmp_68, vzero_70, vbld_70, hd]; try simp (disch := omega) only [wrap64])
      | (with_reducible refine hK' _ ?_; clear hK' K')
      | (with_reducible refine hK _ ?_; clear hK K)
      | ((with_reducible show vCall _ (AVal.fn 17 _) _ _ _); refine vCall_pure (is17_ac c (by omega) (by omega) _) ?_)
      | ((with_reducible show vcC _ 17 _ _ _); refine vcC_pure (is17_ac c (by omega) (by omega) _) ?_)
      | (with_reducible refine And.intro (And.intro rfl rfl) ?_)
      | (with_reducible refine And.intro (by omega) ?_)
      | (with_reducible refine And.intro (fun hg => ?_) (fun hg => ?_) <;> first | simp only [eq_false hg, decide_true, decide_false, and_true, true_and, and_false, false_and, not_true_eq_false, not_false_eq_true] | simp only [eq_true hg, decide_true, decide_false, and_true, true_and, and_false, false_and, not_true_eq_false, not_false_eq_true] | simp only [hg, decide_true, decide_false, and_true, true_and, and_false, false_and, not_true_eq_false, not_false_eq_true])
      | (with_reducible refine And.intro rfl (And.intro rfl rfl))
      | (with_reducible refine thenQ_n ?_)
      | (with_reducible refine thenQ_exit ?_)
      | (with_reducible refine thenQ_ret ?_)
      | (with_reducible refine midQ_ret ?_)
      | (with_reducible refine midQ_exit ?_)
      | (with_reducible refine blockQ_same ?_)
      | (with_reducible refine blockQ_ret ?_)
      | (with_reducible refine blockQ_n ?_)
      | (with_reducible refine AW.exit ?_)
      | (with_reducible refine AW.block ?_)
      | (with_reducible refine AW.cond_t rfl ?_)
      | (with_reducible refine AW.cond_f rfl ?_)
      | (with_reducible refine AW.cond_dec rfl (fun hc => ?_) (fun hc => ?_))
      | (with_reducible refine AW.cond rfl (fun hc => ?_) (fun hc => ?_) <;> try simp only [Bool.not_eq_eq_eq_not, Bool.not_true, Bool.not_false, decide_eq_true_eq, decide_eq_false_iff_not] at hc)
      | (with_reducible refine AW.seq ?_)
      | (with_reducible refine AW.skip ?_)
      | (with_reducible refine AW.ret ?_)
      | (with_reducible refine And.intro ?_ ?_)
      | (with_reducible intro hg; first | simp only [eq_false hg, decide_true, decide_false, and_true, true_and, and_false, false_and, not_true_eq_false, not_false_eq_true] | simp only [eq_true hg, decide_true, decide_false, and_true, true_and, and_false, false_and, not_true_eq_false, not_false_eq_true])
      | (with_reducible refine retQ_drop ?_; simp only [vRes, packRes, vLoad, vPart, lk, cond, Nat.reduceBEq, get_loc, getD_zero, getD_succ, true_and, List.length_cons, List.length_nil, Nat.reduceAdd, Nat.reduceLT, Nat.reduceLeDiff, List.take_succ_cons, List.take_zero, List.drop_succ_cons, List.drop_zero, vvar_2, vzero_2, vknd_2, vsn_2, vvar_4, vzero_4, vknd_4, vsn_4, vvar_27, vzero_27, vbld_27, vvar_68, vzero_68, vmp_68, vzero_70, vbld_70])
      )
    refine ⟨_, _, FinOk.drop hB (Pl.ids (by (repeat' (first | exact Pl.v _ | exact Pl.junk | exact Pl.rd rfl _ | exact pl_nil | refine pl_cons ?_ ?_ | refine Pl.agg ?_ | refine Pl.tup ?_ | refine Pl.rp ?_ | refine Pl.fn ?_)); (first | done | fail))), ?_, rfl⟩
    exact v_bool ⟨fun h => absurd h (by decide), fun h => absurd h.1 hok⟩
theorem law8_ac (c : Ch) (a b : Int) (hx : c.1.length ≤ 9223372036854775807) (hy : c.2.length ≤ 9223372036854775807) (H : List ABox) : AC Try.prog 8 [.agg [.rd (.int .i64) (c).1, .rd (.int .i64) (c).2], .v (.int .i64 (a)), .v (.int .i64 (b))] H (fun r H' => r = .v (.bool true)) := by
  refine AC.enter envOk Try.func8 rfl (by decide) Try.ntmps8 Try.results8 (by simp) fun hB => ?_
  repeat' (first
    | (with_reducible refine AW.sreg envOk fun K hK => ?_)
    | (with_reducible refine AW.region envOk fun K hK => ?_)
    | (with_reducible refine AW.d0reg envOk mixed ?_ ?_ fun K hK => ?_; (first | rfl | exact base_len | exact base_len0); kernel_rfl)
    | (with_reducible refine AW.d0 envOk mixed ?_ ?_ fun K hK => ?_; (first | rfl | exact base_len | exact base_len0); kernel_rfl)
    | (with_reducible refine vcD_nil ?_)
    | (with_reducible refine vcD_cons fun K' hK' => ?_; simp only [vAppend, elems, ↓reduceDIte, List.take_length, Nat.le_refl, List.drop_zero, vGuard, undef, Bool.not_eq_eq_eq_not, dstOk, vcOp, vcF, isPure, putS, vcCall, St.ev, St.put, lk, AVal.ofVal, initS, Nat.reduceLT, true_and, and_true, vBin, vUn, vPick, vConv, vPart, vLoad, vStore, vIdxA, vIdx, vFldA, vExt, vLen, vMin, vNil, vAlloc, vBox, vBuild, vBuildSl, vMake, vSlice, bnd, partsA, fillA, decAll, AVal.flat, AVal.cell, cellsOk, setRange, ETy.enc, ETy.dec, ETy.sz, ETy.d, cond, Nat.reduceBEq, Nat.reduceAdd, Int.toNat_natCast, List.length_set, List.length_append, List.length_replicate, List.length_take, Nat.reduceSub, Nat.reduceEqDiff, get_loc, setBox_loc, next_eq, List.length_cons, List.length_nil, List.map_cons, List.map_nil, List.append_nil, List.nil_append, List.cons_append, List.set_cons_zero, List.set_cons_succ, getD_zero, getD_succ, List.getElem?_cons_succ, List.getElem?_cons_zero, List.take_succ_cons, List.take_zero, List.drop_succ_cons, List.drop_zero, List.all_cons, List.all_nil, Bool.and_true, Bool.true_and, Option.bind_some, Option.map_some, Option.map_none, decide_eq_true_eq, decide_eq_false_iff_not, ne_eq, Bool.not_eq_true, Bool.not_eq_false, Decidable.not_not, not_true_eq_false, not_false_eq_true, forall_const, false_implies, Bool.true_eq_false, Bool.false_eq_true, reduceCtorEq, decide_true, decide_false, Bool.not_true, Bool.not_false, if_true, if_false, Nat.zero_add, Nat.lt_irrefl, Value.oneCell', gt_iff_lt, Nat.reduceLeDiff, Nat.lt_add_one, List.length_append, vMakeMap, vLookup, vMapUpd, vMapEnt, vEntSt, vRange, vEntry, KK.of, KK.av, lkRes, entry_last, vvar_2, vzero_2, vknd_2, vsn_2, vvar_3, vzero_3, vknd_3, vsn_3, vvar_4, vzero_4, vknd_4, vsn_4, vvar_24, vzero_24, vbld_24, vvar_27, vzero_27, vbld_27]; try simp (disch := omega) only [wrap64])
    | (with_reducible refine vcL_nil ?_)
    | (with_reducible refine vcL_cons fun K' hK' => ?_; simp only [vAppend, elems, ↓reduceDIte, List.take_length, Nat.le_refl, List.drop_zero, vGuard, undef, Bool.not_eq_eq_eq_not, dstOk, vcOp, vcF, isPure, putS, vcCall, St.ev, St.put, lk, AVal.ofVal, initS, Nat.reduceLT, true_and, and_true, vBin, vUn, vPick, vConv, vPart, vLoad, vStore, vIdxA, vIdx, vFldA, vExt, vLen, vMin, vNil, vAlloc, vBox, vBuild, vBuildSl, vMake, vSlice, bnd, partsA, fillA, decAll, AVal.flat, AVal.cell, cellsOk, setRange, ETy.enc, ETy.dec, ETy.sz, ETy.d, cond, Nat.reduceBEq, Nat.reduceAdd, Int.toNat_natCast, List.length_set, List.length_append, List.length_replicate, List.length_take, Nat.reduceSub, Nat.reduceEqDiff, get_loc, setBox_loc, next_eq, List.length_cons, List.length_nil, List.map_cons, List.map_nil, List.append_nil, List.nil_append, List.cons_append, List.set_cons_zero, List.set_cons_succ, getD_zero, getD_succ, List.getElem?_cons_succ, List.getElem?_cons_zero, List.take_succ_cons, List.take_zero, List.drop_succ_cons, List.drop_zero, List.all_cons, List.all_nil, Bool.and_true, Bool.true_and, Option.bind_some, Option.map_some, Option.map_none, decide_eq_true_eq, decide_eq_false_iff_not, ne_eq, Bool.not_eq_true, Bool.not_eq_false, Decidable.not_not, not_true_eq_false, not_false_eq_true, forall_const, false_implies, Bool.true_eq_false, Bool.false_eq_true, reduceCtorEq, decide_true, decide_false, Bool.not_true, Bool.not_false, if_true, if_false, Nat.zero_add, Nat.lt_irrefl, Value.oneCell', gt_iff_lt, Nat.reduceLeDiff, Nat.lt_add_one, List.length_append, vMakeMap, vLookup, vMapUpd, vMapEnt, vEntSt, vRange, vEntry, KK.of, KK.av, lkRes, entry_last, vvar_2, vzero_2, vknd_2, vsn_2, vvar_3, vzero_3, vknd_3, vsn_3, vvar_4, vzero_4, vknd_4, vsn_4, vvar_24, vzero_24, vbld_24, vvar_27, vzero_27, vbld_27]; try simp (disch := omega) only [wrap64])
    | (with_reducible refine hK' _ ?_; clear hK' K')
    | (with_reducible refine hK _ ?_; clear hK K)
    | ((with_reducible show vCall _ (AVal.fn 14 _) _ _ _); refine vCall_pure (sz14_ac c _ hx hy (by omega) _) ?_)
    | ((with_reducible show vcC _ 14 _ _ _); refine vcC_pure (sz14_ac c _ hx hy (by omega) _) ?_)
    | ((with_reducible show vCall _ (AVal.fn 16 _) _ _ _); refine vCall_pure (toCh_ac c (by omega) (by omega) _) ?_)
    | ((with_reducible show vcC _ 16 _ _ _); refine vcC_pure (toCh_ac c (by omega) (by omega) _) ?_)
    | ((with_reducible show vCall _ (AVal.fn 31 _) _ _ _); refine vCall_pure (spec31_ac c a b (by omega) (by omega) _) ?_)
    | ((with_reducible show vcC _ 31 _ _ _); refine vcC_pure (spec31_ac c a b (by omega) (by omega) _) ?_)
    | ((with_reducible show vCall _ (AVal.fn 32 _) _ _ _); refine vCall_pure (impl32_ac c a b (by omega) (by omega) _) ?_)
    | ((with_reducible show vcC _ 32 _ _ _); refine vcC_pure (impl32_ac c a b (by omega) (by omega) _) ?_)
    | ((with_reducible show vCall _ (AVal.fn 18 _) _ _ _); refine vCall_pure (eqCh_ac c c (by omega) (by omega) (by omega) (by omega) _) ?_)
    | ((with_reducible show vcC _ 18 _ _ _); refine vcC_pure (eqCh_ac c c (by omega) (by omega) (by omega) (by omega) _) ?_)
    | (with_reducible refine And.intro (And.intro rfl rfl) ?_)
    | (with_reducible refine And.intro (by omega) ?_)
    | (with_reducible refine And.intro (fun hg => ?_) (fun hg => ?_) <;> first | simp only [eq_false hg, decide_true, decide_false, and_true, true_and, and_false, false_and, not_true_eq_false, not_false_eq_true] | simp only [eq_true hg, decide_true, decide_false, and_true, true_and, and_false, false_and, not_true_eq_false, not_false_eq_true] | simp only [hg, decide_true, decide_false, and_true, true_and, and_false, false_and, not_true_eq_false, not_false_eq_true])
    | (with_reducible refine And.intro rfl (And.intro rfl rfl))
    | (with_reducible refine thenQ_n ?_)
    | (with_reducible refine thenQ_exit ?_)
    | (with_reducible refine thenQ_ret ?_)
    | (with_reducible refine midQ_ret ?_)
    | (with_reducible refine midQ_exit ?_)
    | (with_reducible refine blockQ_same ?_)
    | (with_reducible refine blockQ_ret ?_)
    | (with_reducible refine blockQ_n ?_)
    | (with_reducible refine AW.exit ?_)
    | (with_reducible refine AW.block ?_)
    | (with_reducible refine AW.cond_t rfl ?_)
    | (with_reducible refine AW.cond_f rfl ?_)
    | (with_reducible refine AW.cond_dec rfl (fun hc => ?_) (fun hc => ?_))
    | (with_reducible refine AW.cond rfl (fun hc => ?_) (fun hc => ?_) <;> try simp only [Bool.not_eq_eq_eq_not, Bool.not_true, Bool.not_false, decide_eq_true_eq, decide_eq_false_iff_not] at hc)
    | (with_reducible refine AW.seq ?_)
    | (with_reducible refine AW.skip ?_)
    | (with_reducible refine AW.ret ?_)
    | (with_reducible refine And.intro ?_ ?_)
    | (with_reducible intro hg; first | simp only [eq_false hg, decide_true, decide_false, and_true, true_and, and_false, false_and, not_true_eq_false, not_false_eq_true] | simp only [eq_true hg, decide_true, decide_false, and_true, true_and, and_false, false_and, not_true_eq_false, not_false_eq_true])
    | (with_reducible refine retQ_drop ?_; simp only [vRes, packRes, vLoad, vPart, lk, cond, Nat.reduceBEq, get_loc, getD_zero, getD_succ, true_and, List.length_cons, List.length_nil, Nat.reduceAdd, Nat.reduceLT, Nat.reduceLeDiff, List.take_succ_cons, List.take_zero, List.drop_succ_cons, List.drop_zero, vvar_2, vzero_2, vknd_2, vsn_2, vvar_3, vzero_3, vknd_3, vsn_3, vvar_4, vzero_4, vknd_4, vsn_4, vvar_24, vzero_24, vbld_24, vvar_27, vzero_27, vbld_27])
    )
  all_goals exact ⟨_, _, FinOk.drop hB (.v _), rfl⟩
end Go.Proofs.Ytdphlhplcmjepaa

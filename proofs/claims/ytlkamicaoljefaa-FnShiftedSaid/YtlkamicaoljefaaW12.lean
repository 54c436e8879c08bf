/- Walks: the program's wires. -/
import Derived.Test.YtlkamicaoljefaaW11
set_option linter.unusedSimpArgs false
set_option linter.unusedVariables false
set_option maxHeartbeats 1000000
namespace Go.Proofs.Ytlkamicaoljefaa
open Go.Eng

/-- The closure that goes on to a point: the place, the list so far, the box that holds the list. -/
theorem to113a_ac (a b c d : Int) (ws : List (Int × Int)) (hp : Near (c, d)) (hq : Near (a, b)) (hw : ws.length ≤ 10000000) (H : List ABox) (hH : BaseLt H.length H) : AC Try.prog 113 ([.agg [.v (.int .i64 (a)), .v (.int .i64 (b))]] ++ [.ptr 1 (H.length + 2) 0 0, .ptr 1 (H.length + 0) 0 0])
    (H ++ [.box false [.v (.int .i64 (c)), .v (.int .i64 (d))], .row false .pt (ws), .box false [.sl 2 (H.length + 1) 0 (ws.length)]])
    (fun r H' => r = .tup [] ∧ H' = H ++ [.box false [.v (.int .i64 (a)), .v (.int .i64 (b))], .dead, .box false [.sl 2 (H.length + 3) 0 (ws.length + (lineTo (c, d) (a, b)).length)], .row false .pt (ws ++ lineTo (c, d) (a, b))]) := by
  have hl := lineTo_len _ (c, d) (a, b) rfl
  have hg := gap_near hp hq
  refine AC.enter envOk Try.func113 rfl (by decide) Try.ntmps113 Try.results113 (by simp) fun hB => ?_
  repeat' (first
    | (with_reducible refine AW.dreg (id := 1) envOk mixed [(false, 0, 0), (false, 0, 0), (false, 0, 0), (false, 0, 0), (true, 0, 0), (true, 0, 0)] ?_ ?_ fun K hK => ?_; kernel_rfl; (first | rfl | exact base_len | exact base_len0))
    | (with_reducible refine AW.dregion (id := 1) envOk mixed [(false, 0, 0), (false, 0, 0), (false, 0, 0), (false, 0, 0), (true, 0, 0), (true, 0, 0)] ?_ ?_ fun K hK => ?_; kernel_rfl; (first | rfl | exact base_len | exact base_len0))
    | (with_reducible refine vcDr_nil ?_)
    | (with_reducible refine vcDr_cons fun K' hK' => ?_; simp only [vAppend, elems, ↓reduceDIte, List.take_length, Nat.le_refl, List.drop_zero, vGuard, undef, Bool.not_eq_eq_eq_not, dstOk, vcOp, vcF, isPure, putS, vcCall, St.ev, St.put, lk, AVal.ofVal, initS, Nat.reduceLT, true_and, and_true, vBin, vUn, vPick, vConv, vPart, vLoad, vStore, vIdxA, vIdx, vFldA, vExt, vLen, vMin, vNil, vAlloc, vBox, vBuild, vBuildSl, vMake, vSlice, bnd, partsA, fillA, decAll, AVal.flat, AVal.cell, cellsOk, setRange, ETy.enc, ETy.dec, ETy.sz, ETy.d, cond, Nat.reduceBEq, Nat.reduceAdd, Int.toNat_natCast, List.length_set, List.length_append, List.length_replicate, List.length_take, Nat.reduceSub, Nat.reduceEqDiff, get_bl, setBox_bl, next_bl, List.length_cons, List.length_nil, List.map_cons, List.map_nil, List.append_nil, List.nil_append, List.cons_append, List.set_cons_zero, List.set_cons_succ, getD_zero, getD_succ, List.getElem?_cons_succ, List.getElem?_cons_zero, List.take_succ_cons, List.take_zero, List.drop_succ_cons, List.drop_zero, List.all_cons, List.all_nil, Bool.and_true, Bool.true_and, Option.bind_some, Option.map_some, Option.map_none, decide_eq_true_eq, decide_eq_false_iff_not, ne_eq, Bool.not_eq_true, Bool.not_eq_false, Decidable.not_not, not_true_eq_false, not_false_eq_true, forall_const, false_implies, Bool.true_eq_false, Bool.false_eq_true, reduceCtorEq, decide_true, decide_false, Bool.not_true, Bool.not_false, if_true, if_false, Nat.zero_add, Nat.lt_irrefl, Value.oneCell', gt_iff_lt, Nat.reduceLeDiff, Nat.lt_add_one, List.length_append, vvar_26, vzero_26, vbld_26, vpts_26, vsl_43, vkn_43, vvar_43, vzero_43, effI, loI, hiI, pendOk, pastOk, OpOK, Nat.le_refl, Nat.reduceLeDiff, Nat.not_lt_zero, Nat.le_zero_eq, Nat.add_eq_zero_iff, Nat.one_ne_zero, and_false, Nat.zero_le, true_implies]; try simp (disch := omega) only [wrap64])
    | (with_reducible refine hK' _ _ _ _ _ ?_; clear hK' K')
    | (with_reducible refine hK _ _ ?_; clear hK K; dsimp only)
    | (with_reducible refine AW.sreg envOk fun K hK => ?_)
    | (with_reducible refine AW.region envOk fun K hK => ?_)
    | (with_reducible refine AW.d0reg envOk mixed ?_ ?_ fun K hK => ?_; (first | rfl | exact base_len | exact base_len0); kernel_rfl)
    | (with_reducible refine AW.d0 envOk mixed ?_ ?_ fun K hK => ?_; (first | rfl | exact base_len | exact base_len0); kernel_rfl)
    | (with_reducible refine vcD_nil ?_)
    | (with_reducible refine vcD_cons fun K' hK' => ?_; simp only [vAppend, elems, ↓reduceDIte, List.take_length, Nat.le_refl, List.drop_zero, vGuard, undef, Bool.not_eq_eq_eq_not, dstOk, vcOp, vcF, isPure, putS, vcCall, St.ev, St.put, lk, AVal.ofVal, initS, Nat.reduceLT, true_and, and_true, vBin, vUn, vPick, vConv, vPart, vLoad, vStore, vIdxA, vIdx, vFldA, vExt, vLen, vMin, vNil, vAlloc, vBox, vBuild, vBuildSl, vMake, vSlice, bnd, partsA, fillA, decAll, AVal.flat, AVal.cell, cellsOk, setRange, ETy.enc, ETy.dec, ETy.sz, ETy.d, cond, Nat.reduceBEq, Nat.reduceAdd, Int.toNat_natCast, List.length_set, List.length_append, List.length_replicate, List.length_take, Nat.reduceSub, Nat.reduceEqDiff, get_bl, setBox_bl, next_bl, List.length_cons, List.length_nil, List.map_cons, List.map_nil, List.append_nil, List.nil_append, List.cons_append, List.set_cons_zero, List.set_cons_succ, getD_zero, getD_succ, List.getElem?_cons_succ, List.getElem?_cons_zero, List.take_succ_cons, List.take_zero, List.drop_succ_cons, List.drop_zero, List.all_cons, List.all_nil, Bool.and_true, Bool.true_and, Option.bind_some, Option.map_some, Option.map_none, decide_eq_true_eq, decide_eq_false_iff_not, ne_eq, Bool.not_eq_true, Bool.not_eq_false, Decidable.not_not, not_true_eq_false, not_false_eq_true, forall_const, false_implies, Bool.true_eq_false, Bool.false_eq_true, reduceCtorEq, decide_true, decide_false, Bool.not_true, Bool.not_false, if_true, if_false, Nat.zero_add, Nat.lt_irrefl, Value.oneCell', gt_iff_lt, Nat.reduceLeDiff, Nat.lt_add_one, List.length_append, vvar_26, vzero_26, vbld_26, vpts_26, vsl_43, vkn_43, vvar_43, vzero_43]; try simp (disch := omega) only [wrap64])
    | (with_reducible refine vcL_nil ?_)
    | (with_reducible refine vcL_cons fun K' hK' => ?_; simp only [vAppend, elems, ↓reduceDIte, List.take_length, Nat.le_refl, List.drop_zero, vGuard, undef, Bool.not_eq_eq_eq_not, dstOk, vcOp, vcF, isPure, putS, vcCall, St.ev, St.put, lk, AVal.ofVal, initS, Nat.reduceLT, true_and, and_true, vBin, vUn, vPick, vConv, vPart, vLoad, vStore, vIdxA, vIdx, vFldA, vExt, vLen, vMin, vNil, vAlloc, vBox, vBuild, vBuildSl, vMake, vSlice, bnd, partsA, fillA, decAll, AVal.flat, AVal.cell, cellsOk, setRange, ETy.enc, ETy.dec, ETy.sz, ETy.d, cond, Nat.reduceBEq, Nat.reduceAdd, Int.toNat_natCast, List.length_set, List.length_append, List.length_replicate, List.length_take, Nat.reduceSub, Nat.reduceEqDiff, get_bl, setBox_bl, next_bl, List.length_cons, List.length_nil, List.map_cons, List.map_nil, List.append_nil, List.nil_append, List.cons_append, List.set_cons_zero, List.set_cons_succ, getD_zero, getD_succ, List.getElem?_cons_succ, List.getElem?_cons_zero, List.take_succ_cons, List.take_zero, List.drop_succ_cons, List.drop_zero, List.all_cons, List.all_nil, Bool.and_true, Bool.true_and, Option.bind_some, Option.map_some, Option.map_none, decide_eq_true_eq, decide_eq_false_iff_not, ne_eq, Bool.not_eq_true, Bool.not_eq_false, Decidable.not_not, not_true_eq_false, not_false_eq_true, forall_const, false_implies, Bool.true_eq_false, Bool.false_eq_true, reduceCtorEq, decide_true, decide_false, Bool.not_true, Bool.not_false, if_true, if_false, Nat.zero_add, Nat.lt_irrefl, Value.oneCell', gt_iff_lt, Nat.reduceLeDiff, Nat.lt_add_one, List.length_append, vvar_26, vzero_26, vbld_26, vpts_26, vsl_43, vkn_43, vvar_43, vzero_43]; try simp (disch := omega) only [wrap64])
    | (with_reducible refine hK' _ ?_; clear hK' K')
    | (with_reducible refine hK _ ?_; clear hK K)
    | (with_reducible refine vcC_pure (line_ac _ _ hp hq _) ?_)
    | (with_reducible refine vCall_pure (line_ac _ _ hp hq _) ?_)
    | (with_reducible refine And.intro (And.intro rfl rfl) ?_)
    | (with_reducible refine And.intro (by omega) ?_)
    | (with_reducible refine And.intro (fun hg => ?_) (fun hg => ?_) <;> first | simp only [eq_false hg, decide_true, decide_false, and_true, true_and, and_false, false_and, not_true_eq_false, not_false_eq_true] | simp only [eq_true hg, decide_true, decide_false, and_true, true_and, and_false, false_and, not_true_eq_false, not_false_eq_true] | simp only [hg, decide_true, decide_false, and_true, true_and, and_false, false_and, not_true_eq_false, not_false_eq_true])
    | (with_reducible refine And.intro rfl (And.intro rfl rfl))
    | (with_reducible refine thenQ_n ?_)
    | (with_reducible refine thenQ_exit ?_)
    | (with_reducible refine thenQ_ret ?_)
    | (with_reducible refine midQ_ret ?_)
    | (with_reducible refine midQ_exit ?_)
    | (with_reducible refine blockQ_same ?_)
    | (with_reducible refine blockQ_ret ?_)
    | (with_reducible refine blockQ_n ?_)
    | (with_reducible refine AW.exit ?_)
    | (with_reducible refine AW.block ?_)
    | (with_reducible refine AW.cond_t rfl ?_)
    | (with_reducible refine AW.cond_f rfl ?_)
    | (with_reducible refine AW.cond_dec rfl (fun hc => ?_) (fun hc => ?_))
    | (with_reducible refine AW.cond rfl (fun hc => ?_) (fun hc => ?_) <;> try simp only [Bool.not_eq_eq_eq_not, Bool.not_true, Bool.not_false, decide_eq_true_eq, decide_eq_false_iff_not] at hc)
    | (with_reducible refine AW.seq ?_)
    | (with_reducible refine AW.skip ?_)
    | (with_reducible refine AW.ret ?_)
    | (with_reducible refine And.intro ?_ ?_)
    | (with_reducible intro hg; first | simp only [eq_false hg, decide_true, decide_false, and_true, true_and, and_false, false_and, not_true_eq_false, not_false_eq_true] | simp only [eq_true hg, decide_true, decide_false, and_true, true_and, and_false, false_and, not_true_eq_false, not_false_eq_true])
    | (with_reducible refine retQ_drop ?_; simp only [vRes, packRes, vLoad, vPart, lk, cond, Nat.reduceBEq, get_bl, getD_zero, getD_succ, true_and, List.length_cons, List.length_nil, Nat.reduceAdd, Nat.reduceLT, Nat.reduceLeDiff, List.take_succ_cons, List.take_zero, List.drop_succ_cons, List.drop_zero, vvar_26, vzero_26, vbld_26, vpts_26, vsl_43, vkn_43, vvar_43, vzero_43])
    )
  refine ⟨_, _, FinOk.sel [0, 1, 2, 4] hH (by simp) (by decide) (fun j hj => ?_) (L' := [.box false [.v (.int .i64 (a)), .v (.int .i64 (b))], .dead, .box false [.sl 2 (H.length + 3) 0 (ws.length + (lineTo (c, d) (a, b)).length)], .row false .pt (ws ++ lineTo (c, d) (a, b))]) ?_ (RenV.pl (.tup pl_nil)), rfl, rfl⟩
  · rcases j with _ | _ | _ | j
    · rfl
    · rfl
    · rfl
    · simp at hj; omega
  · refine ⟨RenB.plBox (by (repeat' (first | exact Pl.v _ | exact Pl.junk | exact Pl.rd rfl _ | exact pl_nil | refine pl_cons ?_ ?_ | refine Pl.agg ?_ | refine Pl.tup ?_ | refine Pl.rp ?_ | refine Pl.fn ?_)); done), by simp, RenB.dead _, by simp, RenB.box rfl (fun i hi => ?_), by simp, RenB.plRow rfl, by simp, trivial⟩
    have h0 : i = 0 := by simpa using hi
    subst h0
    exact RenV.sl (j := 3) rfl
theorem to113b_ac (a b c d : Int) (ws : List (Int × Int)) (hp : Near (c, d)) (hq : Near (a, b)) (hw : ws.length ≤ 10000000) (H : List ABox) (hH : BaseLt H.length H) : AC Try.prog 113 ([.agg [.v (.int .i64 (a)), .v (.int .i64 (b))]] ++ [.ptr 1 (H.length + 2) 0 0, .ptr 1 (H.length + 0) 0 0])
    (H ++ [.box false [.v (.int .i64 (c)), .v (.int .i64 (d))], .dead, .box false [.sl 2 (H.length + 3) 0 (ws.length)], .row false .pt (ws)])
    (fun r H' => r = .tup [] ∧ H' = H ++ [.box false [.v (.int .i64 (a)), .v (.int .i64 (b))], .dead, .box false [.sl 2 (H.length + 4) 0 (ws.length + (lineTo (c, d) (a, b)).length)], .dead, .row false .pt (ws ++ lineTo (c, d) (a, b))]) := by
  have hl := lineTo_len _ (c, d) (a, b) rfl
  have hg := gap_near hp hq
  refine AC.enter envOk Try.func113 rfl (by decide) Try.ntmps113 Try.results113 (by simp) fun hB => ?_
  repeat' (first
    | (with_reducible refine AW.dreg (id := 1) envOk mixed [(false, 0, 0), (false, 0, 0), (false, 0, 0), (false, 0, 0), (true, 0, 0), (true, 0, 0)] ?_ ?_ fun K hK => ?_; kernel_rfl; (first | rfl | exact base_len | exact base_len0))
    | (with_reducible refine AW.dregion (id := 1) envOk mixed [(false, 0, 0), (false, 0, 0), (false, 0, 0), (false, 0, 0), (true, 0, 0), (true, 0, 0)] ?_ ?_ fun K hK => ?_; kernel_rfl; (first | rfl | exact base_len | exact base_len0))
    | (with_reducible refine vcDr_nil ?_)
    | (with_reducible refine vcDr_cons fun K' hK' => ?_; simp only [vAppend, elems, ↓reduceDIte, List.take_length, Nat.le_refl, List.drop_zero, vGuard, undef, Bool.not_eq_eq_eq_not, dstOk, vcOp, vcF, isPure, putS, vcCall, St.ev, St.put, lk, AVal.ofVal, initS, Nat.reduceLT, true_and, and_true, vBin, vUn, vPick, vConv, vPart, vLoad, vStore, vIdxA, vIdx, vFldA, vExt, vLen, vMin, vNil, vAlloc, vBox, vBuild, vBuildSl, vMake, vSlice, bnd, partsA, fillA, decAll, AVal.flat, AVal.cell, cellsOk, setRange, ETy.enc, ETy.dec, ETy.sz, ETy.d, cond, Nat.reduceBEq, Nat.reduceAdd, Int.toNat_natCast, List.length_set, List.length_append, List.length_replicate, List.length_take, Nat.reduceSub, Nat.reduceEqDiff, get_bl, setBox_bl, next_bl, List.length_cons, List.length_nil, List.map_cons, List.map_nil, List.append_nil, List.nil_append, List.cons_append, List.set_cons_zero, List.set_cons_succ, getD_zero, getD_succ, List.getElem?_cons_succ, List.getElem?_cons_zero, List.take_succ_cons, List.take_zero, List.drop_succ_cons, List.drop_zero, List.all_cons, List.all_nil, Bool.and_true, Bool.true_and, Option.bind_some, Option.map_some, Option.map_none, decide_eq_true_eq, decide_eq_false_iff_not, ne_eq, Bool.not_eq_true, Bool.not_eq_false, Decidable.not_not, not_true_eq_false, not_false_eq_true, forall_const, false_implies, Bool.true_eq_false, Bool.false_eq_true, reduceCtorEq, decide_true, decide_false, Bool.not_true, Bool.not_false, if_true, if_false, Nat.zero_add, Nat.lt_irrefl, Value.oneCell', gt_iff_lt, Nat.reduceLeDiff, Nat.lt_add_one, List.length_append, vvar_26, vzero_26, vbld_26, vpts_26, vsl_43, vkn_43, vvar_43, vzero_43, effI, loI, hiI, pendOk, pastOk, OpOK, Nat.le_refl, Nat.reduceLeDiff, Nat.not_lt_zero, Nat.le_zero_eq, Nat.add_eq_zero_iff, Nat.one_ne_zero, and_false, Nat.zero_le, true_implies]; try simp (disch := omega) only [wrap64])
    | (with_reducible refine hK' _ _ _ _ _ ?_; clear hK' K')
    | (with_reducible refine hK _ _ ?_; clear hK K; dsimp only)
    | (with_reducible refine AW.sreg envOk fun K hK => ?_)
    | (with_reducible refine AW.region envOk fun K hK => ?_)
    | (with_reducible refine AW.d0reg envOk mixed ?_ ?_ fun K hK => ?_; (first | rfl | exact base_len | exact base_len0); kernel_rfl)
    | (with_reducible refine AW.d0 envOk mixed ?_ ?_ fun K hK => ?_; (first | rfl | exact base_len | exact base_len0); kernel_rfl)
    | (with_reducible refine vcD_nil ?_)
    | (with_reducible refine vcD_cons fun K' hK' => ?_; simp only [vAppend, elems, ↓reduceDIte, List.take_length, Nat.le_refl, List.drop_zero, vGuard, undef, Bool.not_eq_eq_eq_not, dstOk, vcOp, vcF, isPure, putS, vcCall, St.ev, St.put, lk, AVal.ofVal, initS, Nat.reduceLT, true_and, and_true, vBin, vUn, vPick, vConv, vPart, vLoad, vStore, vIdxA, vIdx, vFldA, vExt, vLen, vMin, vNil, vAlloc, vBox, vBuild, vBuildSl, vMake, vSlice, bnd, partsA, fillA, decAll, AVal.flat, AVal.cell, cellsOk, setRange, ETy.enc, ETy.dec, ETy.sz, ETy.d, cond, Nat.reduceBEq, Nat.reduceAdd, Int.toNat_natCast, List.length_set, List.length_append, List.length_replicate, List.length_take, Nat.reduceSub, Nat.reduceEqDiff, get_bl, setBox_bl, next_bl, List.length_cons, List.length_nil, List.map_cons, List.map_nil, List.append_nil, List.nil_append, List.cons_append, List.set_cons_zero, List.set_cons_succ, getD_zero, getD_succ, List.getElem?_cons_succ, List.getElem?_cons_zero, List.take_succ_cons, List.take_zero, List.drop_succ_cons, List.drop_zero, List.all_cons, List.all_nil, Bool.and_true, Bool.true_and, Option.bind_some, Option.map_some, Option.map_none, decide_eq_true_eq, decide_eq_false_iff_not, ne_eq, Bool.not_eq_true, Bool.not_eq_false, Decidable.not_not, not_true_eq_false, not_false_eq_true, forall_const, false_implies, Bool.true_eq_false, Bool.false_eq_true, reduceCtorEq, decide_true, decide_false, Bool.not_true, Bool.not_false, if_true, if_false, Nat.zero_add, Nat.lt_irrefl, Value.oneCell', gt_iff_lt, Nat.reduceLeDiff, Nat.lt_add_one, List.length_append, vvar_26, vzero_26, vbld_26, vpts_26, vsl_43, vkn_43, vvar_43, vzero_43]; try simp (disch := omega) only [wrap64])
    | (with_reducible refine vcL_nil ?_)
    | (with_reducible refine vcL_cons fun K' hK' => ?_; simp only [vAppend, elems, ↓reduceDIte, List.take_length, Nat.le_refl, List.drop_zero, vGuard, undef, Bool.not_eq_eq_eq_not, dstOk, vcOp, vcF, isPure, putS, vcCall, St.ev, St.put, lk, AVal.ofVal, initS, Nat.reduceLT, true_and, and_true, vBin, vUn, vPick, vConv, vPart, vLoad, vStore, vIdxA, vIdx, vFldA, vExt, vLen, vMin, vNil, vAlloc, vBox, vBuild, vBuildSl, vMake, vSlice, bnd, partsA, fillA, decAll, AVal.flat, AVal.cell, cellsOk, setRange, ETy.enc, ETy.dec, ETy.sz, ETy.d, cond, Nat.reduceBEq, Nat.reduceAdd, Int.toNat_natCast, List.length_set, List.length_append, List.length_replicate, List.length_take, Nat.reduceSub, Nat.reduceEqDiff, get_bl, setBox_bl, next_bl, List.length_cons, List.length_nil, List.map_cons, List.map_nil, List.append_nil, List.nil_append, List.cons_append, List.set_cons_zero, List.set_cons_succ, getD_zero, getD_succ, List.getElem?_cons_succ, List.getElem?_cons_zero, List.take_succ_cons, List.take_zero, List.drop_succ_cons, List.drop_zero, List.all_cons, List.all_nil, Bool.and_true, Bool.true_and, Option.bind_some, Option.map_some, Option.map_none, decide_eq_true_eq, decide_eq_false_iff_not, ne_eq, Bool.not_eq_true, Bool.not_eq_false, Decidable.not_not, not_true_eq_false, not_false_eq_true, forall_const, false_implies, Bool.true_eq_false, Bool.false_eq_true, reduceCtorEq, decide_true, decide_false, Bool.not_true, Bool.not_false, if_true, if_false, Nat.zero_add, Nat.lt_irrefl, Value.oneCell', gt_iff_lt, Nat.reduceLeDiff, Nat.lt_add_one, List.length_append, vvar_26, vzero_26, vbld_26, vpts_26, vsl_43, vkn_43, vvar_43, vzero_43]; try simp (disch := omega) only [wrap64])
    | (with_reducible refine hK' _ ?_; clear hK' K')
    | (with_reducible refine hK _ ?_; clear hK K)
    | (with_reducible refine vcC_pure (line_ac _ _ hp hq _) ?_)
    | (with_reducible refine vCall_pure (line_ac _ _ hp hq _) ?_)
    | (with_reducible refine And.intro (And.intro rfl rfl) ?_)
    | (with_reducible refine And.intro (by omega) ?_)
    | (with_reducible refine And.intro (fun hg => ?_) (fun hg => ?_) <;> first | simp only [eq_false hg, decide_true, decide_false, and_true, true_and, and_false, false_and, not_true_eq_false, not_false_eq_true] | simp only [eq_true hg, decide_true, decide_false, and_true, true_and, and_false, false_and, not_true_eq_false, not_false_eq_true] | simp only [hg, decide_true, decide_false, and_true, true_and, and_false, false_and, not_true_eq_false, not_false_eq_true])
    | (with_reducible refine And.intro rfl (And.intro rfl rfl))
    | (with_reducible refine thenQ_n ?_)
    | (with_reducible refine thenQ_exit ?_)
    | (with_reducible refine thenQ_ret ?_)
    | (with_reducible refine midQ_ret ?_)
    | (with_reducible refine midQ_exit ?_)
    | (with_reducible refine blockQ_same ?_)
    | (with_reducible refine blockQ_ret ?_)
    | (with_reducible refine blockQ_n ?_)
    | (with_reducible refine AW.exit ?_)
    | (with_reducible refine AW.block ?_)
    | (with_reducible refine AW.cond_t rfl ?_)
    | (with_reducible refine AW.cond_f rfl ?_)
    | (with_reducible refine AW.cond_dec rfl (fun hc => ?_) (fun hc => ?_))
    | (with_reducible refine AW.cond rfl (fun hc => ?_) (fun hc => ?_) <;> try simp only [Bool.not_eq_eq_eq_not, Bool.not_true, Bool.not_false, decide_eq_true_eq, decide_eq_false_iff_not] at hc)
    | (with_reducible refine AW.seq ?_)
    | (with_reducible refine AW.skip ?_)
    | (with_reducible refine AW.ret ?_)
    | (with_reducible refine And.intro ?_ ?_)
    | (with_reducible intro hg; first | simp only [eq_false hg, decide_true, decide_false, and_true, true_and, and_false, false_and, not_true_eq_false, not_false_eq_true] | simp only [eq_true hg, decide_true, decide_false, and_true, true_and, and_false, false_and, not_true_eq_false, not_false_eq_true])
    | (with_reducible refine retQ_drop ?_; simp only [vRes, packRes, vLoad, vPart, lk, cond, Nat.reduceBEq, get_bl, getD_zero, getD_succ, true_and, List.length_cons, List.length_nil, Nat.reduceAdd, Nat.reduceLT, Nat.reduceLeDiff, List.take_succ_cons, List.take_zero, List.drop_succ_cons, List.drop_zero, vvar_26, vzero_26, vbld_26, vpts_26, vsl_43, vkn_43, vvar_43, vzero_43])
    )
  refine ⟨_, _, FinOk.sel [0, 1, 2, 3, 5] hH (by simp) (by decide) (fun j hj => ?_) (L' := [.box false [.v (.int .i64 (a)), .v (.int .i64 (b))], .dead, .box false [.sl 2 (H.length + 4) 0 (ws.length + (lineTo (c, d) (a, b)).length)], .dead, .row false .pt (ws ++ lineTo (c, d) (a, b))]) ?_ (RenV.pl (.tup pl_nil)), rfl, rfl⟩
  · rcases j with _ | _ | _ | _ | j
    · rfl
    · rfl
    · rfl
    · rfl
    · simp at hj; omega
  · refine ⟨RenB.plBox (by (repeat' (first | exact Pl.v _ | exact Pl.junk | exact Pl.rd rfl _ | exact pl_nil | refine pl_cons ?_ ?_ | refine Pl.agg ?_ | refine Pl.tup ?_ | refine Pl.rp ?_ | refine Pl.fn ?_)); done), by simp, RenB.dead _, by simp, RenB.box rfl (fun i hi => ?_), by simp, RenB.dead _, by simp, RenB.plRow rfl, by simp, trivial⟩
    have h0 : i = 0 := by simpa using hi
    subst h0
    exact RenV.sl (j := 4) rfl
theorem trackTo_min {xs ys : List Int} {i k : Nat} (h : ys.getD i 0 < xs.getD i 0 ∧ i + k < xs.length) : trackTo xs ys i k = min (xs.getD i 0) (ys.getD (i + k) 0 - k) := by unfold trackTo; rw [if_pos h]
theorem trackTo_max {xs ys : List Int} {i k : Nat} (h : ¬ ys.getD i 0 < xs.getD i 0) (h2 : xs.getD i 0 < ys.getD i 0 ∧ k ≤ i) : trackTo xs ys i k = max (xs.getD i 0) (ys.getD (i - k) 0 + k) := by
  unfold trackTo; rw [if_neg (fun hh => h hh.1), if_pos h2]
theorem trackTo_end {xs ys : List Int} {i k : Nat} (h : ¬ (ys.getD i 0 < xs.getD i 0 ∧ i + k < xs.length)) (h2 : ¬ (xs.getD i 0 < ys.getD i 0 ∧ k ≤ i)) : trackTo xs ys i k = xs.getD i 0 := by
  unfold trackTo; rw [if_neg h, if_neg h2]

theorem path101_ac (xs ys : List Int) (t i : Nat) (hr : RiverOk xs ys) (hi : i < xs.length) (ht : t ≤ 20) (H : List ABox) : AC Try.prog 101 [.rd (.int .i64) (xs), .rd (.int .i64) (ys), .v (.int .i64 ((t : Int))), .v (.int .i64 ((i : Int)))] H
    (fun r H' => r = .rd .pt (pathF xs ys t i) ∧ H' = H) := by
  have hl0 := hr.1
  have hl1 := hr.2.1
  obtain ⟨_, _, _, _, hx, hy⟩ := hr.small (t := 0) (by omega) (s := 0) (by omega)
  refine AC.enter envOk Try.func101 rfl (by decide) Try.ntmps101 Try.results101 (by simp) fun hB => ?_
  repeat' (first
    | (with_reducible refine AW.sreg envOk fun K hK => ?_)
    | (with_reducible refine AW.region envOk fun K hK => ?_)
    | (with_reducible refine AW.d0reg envOk mixed ?_ ?_ fun K hK => ?_; (first | rfl | exact base_len | exact base_len0); kernel_rfl)
    | (with_reducible refine AW.d0 envOk mixed ?_ ?_ fun K hK => ?_; (first | rfl | exact base_len | exact base_len0); kernel_rfl)
    | (with_reducible refine vcD_nil ?_)
    | (with_reducible refine vcD_cons fun K' hK' => ?_; simp only [vAppend, elems, ↓reduceDIte, List.take_length, Nat.le_refl, List.drop_zero, vGuard, undef, Bool.not_eq_eq_eq_not, dstOk, vcOp, vcF, isPure, putS, vcCall, St.ev, St.put, lk, AVal.ofVal, initS, Nat.reduceLT, true_and, and_true, vBin, vUn, vPick, vConv, vPart, vLoad, vStore, vIdxA, vIdx, vFldA, vExt, vLen, vMin, vNil, vAlloc, vBox, vBuild, vBuildSl, vMake, vSlice, bnd, partsA, fillA, decAll, AVal.flat, AVal.cell, cellsOk, setRange, ETy.enc, ETy.dec, ETy.sz, ETy.d, cond, Nat.reduceBEq, Nat.reduceAdd, Int.toNat_natCast, List.length_set, List.length_append, List.length_replicate, List.length_take, Nat.reduceSub, Nat.reduceEqDiff, get_loc, setBox_loc, next_eq, List.length_cons, List.length_nil, List.map_cons, List.map_nil, List.append_nil, List.nil_append, List.cons_append, List.set_cons_zero, List.set_cons_succ, getD_zero, getD_succ, List.getElem?_cons_succ, List.getElem?_cons_zero, List.take_succ_cons, List.take_zero, List.drop_succ_cons, List.drop_zero, List.all_cons, List.all_nil, Bool.and_true, Bool.true_and, Option.bind_some, Option.map_some, Option.map_none, decide_eq_true_eq, decide_eq_false_iff_not, ne_eq, Bool.not_eq_true, Bool.not_eq_false, Decidable.not_not, not_true_eq_false, not_false_eq_true, forall_const, false_implies, Bool.true_eq_false, Bool.false_eq_true, reduceCtorEq, decide_true, decide_false, Bool.not_true, Bool.not_false, if_true, if_false, Nat.zero_add, Nat.lt_irrefl, Value.oneCell', gt_iff_lt, Nat.reduceLeDiff, Nat.lt_add_one, List.length_append, vvar_1, vzero_1, vvar_2, vzero_2, vknd_2, vsn_2, vvar_3, vzero_3, vknd_3, vsn_3, vvar_4, vzero_4, vknd_4, vsn_4, vvar_26, vzero_26, vbld_26, vpts_26, vsl_33, vkn_33, vvar_33, vzero_33, vsl_43, vkn_43, vvar_43, vzero_43, vvar_94, vzero_94, vfld_26_0]; try simp (disch := omega) only [wrap64])
    | (with_reducible refine vcL_nil ?_)
    | (with_reducible refine vcL_cons fun K' hK' => ?_; simp only [vAppend, elems, ↓reduceDIte, List.take_length, Nat.le_refl, List.drop_zero, vGuard, undef, Bool.not_eq_eq_eq_not, dstOk, vcOp, vcF, isPure, putS, vcCall, St.ev, St.put, lk, AVal.ofVal, initS, Nat.reduceLT, true_and, and_true, vBin, vUn, vPick, vConv, vPart, vLoad, vStore, vIdxA, vIdx, vFldA, vExt, vLen, vMin, vNil, vAlloc, vBox, vBuild, vBuildSl, vMake, vSlice, bnd, partsA, fillA, decAll, AVal.flat, AVal.cell, cellsOk, setRange, ETy.enc, ETy.dec, ETy.sz, ETy.d, cond, Nat.reduceBEq, Nat.reduceAdd, Int.toNat_natCast, List.length_set, List.length_append, List.length_replicate, List.length_take, Nat.reduceSub, Nat.reduceEqDiff, get_loc, setBox_loc, next_eq, List.length_cons, List.length_nil, List.map_cons, List.map_nil, List.append_nil, List.nil_append, List.cons_append, List.set_cons_zero, List.set_cons_succ, getD_zero, getD_succ, List.getElem?_cons_succ, List.getElem?_cons_zero, List.take_succ_cons, List.take_zero, List.drop_succ_cons, List.drop_zero, List.all_cons, List.all_nil, Bool.and_true, Bool.true_and, Option.bind_some, Option.map_some, Option.map_none, decide_eq_true_eq, decide_eq_false_iff_not, ne_eq, Bool.not_eq_true, Bool.not_eq_false, Decidable.not_not, not_true_eq_false, not_false_eq_true, forall_const, false_implies, Bool.true_eq_false, Bool.false_eq_true, reduceCtorEq, decide_true, decide_false, Bool.not_true, Bool.not_false, if_true, if_false, Nat.zero_add, Nat.lt_irrefl, Value.oneCell', gt_iff_lt, Nat.reduceLeDiff, Nat.lt_add_one, List.length_append, vvar_1, vzero_1, vvar_2, vzero_2, vknd_2, vsn_2, vvar_3, vzero_3, vknd_3, vsn_3, vvar_4, vzero_4, vknd_4, vsn_4, vvar_26, vzero_26, vbld_26, vpts_26, vsl_33, vkn_33, vvar_33, vzero_33, vsl_43, vkn_43, vvar_43, vzero_43, vvar_94, vzero_94, vfld_26_0]; try simp (disch := omega) only [wrap64])
    | (with_reducible refine hK' _ ?_; clear hK' K')
    | (with_reducible refine hK _ ?_; clear hK K)
    | (with_reducible refine And.intro (And.intro rfl rfl) ?_)
    | (with_reducible refine And.intro (by omega) ?_)
    | (with_reducible refine And.intro (fun hg => ?_) (fun hg => ?_) <;> first | simp only [eq_false hg, decide_true, decide_false, and_true, true_and, and_false, false_and, not_true_eq_false, not_false_eq_true] | simp only [eq_true hg, decide_true, decide_false, and_true, true_and, and_false, false_and, not_true_eq_false, not_false_eq_true] | simp only [hg, decide_true, decide_false, and_true, true_and, and_false, false_and, not_true_eq_false, not_false_eq_true])
    | (with_reducible refine And.intro rfl (And.intro rfl rfl))
    | (with_reducible refine thenQ_n ?_)
    | (with_reducible refine thenQ_exit ?_)
    | (with_reducible refine thenQ_ret ?_)
    | (with_reducible refine midQ_ret ?_)
    | (with_reducible refine midQ_exit ?_)
    | (with_reducible refine blockQ_same ?_)
    | (with_reducible refine blockQ_ret ?_)
    | (with_reducible refine blockQ_n ?_)
    | (with_reducible refine AW.exit ?_)
    | (with_reducible refine AW.block ?_)
    | (with_reducible refine AW.cond_t rfl ?_)
    | (with_reducible refine AW.cond_f rfl ?_)
    | (with_reducible refine AW.cond_dec rfl (fun hc => ?_) (fun hc => ?_))
    | (with_reducible refine AW.cond rfl (fun hc => ?_) (fun hc => ?_) <;> try simp only [Bool.not_eq_eq_eq_not, Bool.not_true, Bool.not_false, decide_eq_true_eq, decide_eq_false_iff_not] at hc)
    | (with_reducible refine AW.seq ?_)
    | (with_reducible refine AW.skip ?_)
    | (with_reducible refine AW.ret ?_)
    | (with_reducible refine And.intro ?_ ?_)
    | (with_reducible intro hg; first | simp only [eq_false hg, decide_true, decide_false, and_true, true_and, and_false, false_and, not_true_eq_false, not_false_eq_true] | simp only [eq_true hg, decide_true, decide_false, and_true, true_and, and_false, false_and, not_true_eq_false, not_false_eq_true])
    | (with_reducible refine retQ_drop ?_; simp only [vRes, packRes, vLoad, vPart, lk, cond, Nat.reduceBEq, get_loc, getD_zero, getD_succ, true_and, List.length_cons, List.length_nil, Nat.reduceAdd, Nat.reduceLT, Nat.reduceLeDiff, List.take_succ_cons, List.take_zero, List.drop_succ_cons, List.drop_zero, vvar_1, vzero_1, vvar_2, vzero_2, vknd_2, vsn_2, vvar_3, vzero_3, vknd_3, vsn_3, vvar_4, vzero_4, vknd_4, vsn_4, vvar_26, vzero_26, vbld_26, vpts_26, vsl_33, vkn_33, vvar_33, vzero_33, vsl_43, vkn_43, vvar_43, vzero_43, vvar_94, vzero_94, vfld_26_0])
    )
  refine AW.loop (fun z : Nat × List (Int × Int) => (⟨102, [(0, .rd (.int .i64) (xs)), (1, .rd (.int .i64) (ys)), (2, .v (.int .i64 ((t : Int)))), (3, .v (.int .i64 ((i : Int)))), (9, .ptr 1 (H.length + 0) 0 0), (10, .ptr 1 (H.length + 2) 0 0), (11, .fn 113 [.ptr 1 (H.length + 2) 0 0, .ptr 1 (H.length + 0) 0 0]), (12, .v (.int .i64 ((z.1 : Int) + 1)))], H, [.box false [.v (.int .i64 (xAt xs ys i z.1)), .v (.int .i64 (z.1 : Int))], .row false .pt (z.2), .box false [.sl 2 (H.length + 1) 0 (z.2.length)]]⟩ : St)) (fun z => z.1 ≤ t ∧ z.2 = pathTo xs ys i z.1) (fun z => t - z.1) (0, pathTo xs ys i 0) ⟨Nat.zero_le _, rfl⟩ ?_ ?_
  · rw [show (pathTo xs ys i 0).length = 1 from rfl]
    exact (Weak.sel [0, 1, 2] hB (by decide) (by (repeat' (first | exact trivial | exact RenB.plRow rfl | exact RenB.dead _ | refine And.intro ?_ ?_ | (refine RenB.plBox ?_; (repeat' (first | exact Pl.v _ | exact Pl.junk | exact Pl.rd rfl _ | exact pl_nil | refine pl_cons ?_ ?_ | refine Pl.agg ?_ | refine Pl.tup ?_ | refine Pl.rp ?_ | refine Pl.fn ?_)); done) | refine RenB.of ?_ | exact RenV.ptr rfl | exact RenV.sl rfl | (refine RenV.pl ?_; (repeat' (first | exact Pl.v _ | exact Pl.junk | exact Pl.rd rfl _ | exact pl_nil | refine pl_cons ?_ ?_ | refine Pl.agg ?_ | refine Pl.tup ?_ | refine Pl.rp ?_ | refine Pl.fn ?_)); done) | refine RenV.aggL ?_ | refine RenV.fnL ?_ | exact Nat.lt_of_sub_pos (by decide) | (simp; done))); done) (by (repeat' (first | exact trivial | exact RenV.ptr rfl | exact RenV.sl rfl | exact RenV.low (.v _) | (refine RenV.pl ?_; (repeat' (first | exact Pl.v _ | exact Pl.junk | exact Pl.rd rfl _ | exact pl_nil | refine pl_cons ?_ ?_ | refine Pl.agg ?_ | refine Pl.tup ?_ | refine Pl.rp ?_ | refine Pl.fn ?_)); done) | refine RenV.fnL ?_ | refine RenV.aggL ?_ | refine And.intro ?_ ?_)); done))
  intro ⟨k, L⟩ ⟨hk, hL⟩
  simp only at hk hL ⊢
  have hlen := pathTo_len hr hi k (by omega)
  rw [← hL] at hlen
  have n1 := xAt_near hr hi k
  have n2 := xAt_near hr hi (k + 1)
  have x1 := hx i; have y1 := hy i; have y2 := hy (i + (k + 1)); have y3 := hy (i - (k + 1))
  have nr1 : Near (xAt xs ys i k, (k : Int)) := by unfold Near; simp only; omega
  have nr2 : Near (xAt xs ys i k, (k : Int) + 1) := by unfold Near; simp only; omega
  have nrT : Near (xAt xs ys i k, (t : Int) + 1) := by unfold Near; simp only; omega
  have nr3 : Near (xAt xs ys i (k + 1), (k : Int) + 1) := by unfold Near; simp only; omega
  obtain ⟨L1, hL1⟩ : ∃ L1, L1 = L ++ [(xAt xs ys i k, (k : Int) + 1)] := ⟨_, rfl⟩
  have hlen1 : L1.length = L.length + 1 := by rw [hL1]; simp
  obtain ⟨m1, hm1⟩ : ∃ m1, m1 = if ys.getD i 0 < xs.getD i 0 ∧ i + (k + 1) < xs.length then min (xs.getD i 0) (ys.getD (i + (k + 1)) 0 - ((k : Int) + 1)) else xs.getD i 0 := ⟨_, rfl⟩
  repeat' (first
    | (with_reducible refine AW.sreg envOk fun K hK => ?_)
    | (with_reducible refine AW.region envOk fun K hK => ?_)
    | (with_reducible refine AW.d0reg envOk mixed ?_ ?_ fun K hK => ?_; (first | rfl | exact base_len | exact base_len0); kernel_rfl)
    | (with_reducible refine AW.d0 envOk mixed ?_ ?_ fun K hK => ?_; (first | rfl | exact base_len | exact base_len0); kernel_rfl)
    | (with_reducible refine vcD_nil ?_)
    | (with_reducible refine vcD_cons fun K' hK' => ?_; simp only [vAppend, elems, ↓reduceDIte, List.take_length, Nat.le_refl, List.drop_zero, vGuard, undef, Bool.not_eq_eq_eq_not, dstOk, vcOp, vcF, isPure, putS, vcCall, St.ev, St.put, lk, AVal.ofVal, initS, Nat.reduceLT, true_and, and_true, vBin, vUn, vPick, vConv, vPart, vLoad, vStore, vIdxA, vIdx, vFldA, vExt, vLen, vMin, vNil, vAlloc, vBox, vBuild, vBuildSl, vMake, vSlice, bnd, partsA, fillA, decAll, AVal.flat, AVal.cell, cellsOk, setRange, ETy.enc, ETy.dec, ETy.sz, ETy.d, cond, Nat.reduceBEq, Nat.reduceAdd, Int.toNat_natCast, List.length_set, List.length_append, List.length_replicate, List.length_take, Nat.reduceSub, Nat.reduceEqDiff, get_loc, setBox_loc, next_eq, List.length_cons, List.length_nil, List.map_cons, List.map_nil, List.append_nil, List.nil_append, List.cons_append, List.set_cons_zero, List.set_cons_succ, getD_zero, getD_succ, List.getElem?_cons_succ, List.getElem?_cons_zero, List.take_succ_cons, List.take_zero, List.drop_succ_cons, List.drop_zero, List.all_cons, List.all_nil, Bool.and_true, Bool.true_and, Option.bind_some, Option.map_some, Option.map_none, decide_eq_true_eq, decide_eq_false_iff_not, ne_eq, Bool.not_eq_true, Bool.not_eq_false, Decidable.not_not, not_true_eq_false, not_false_eq_true, forall_const, false_implies, Bool.true_eq_false, Bool.false_eq_true, reduceCtorEq, decide_true, decide_false, Bool.not_true, Bool.not_false, if_true, if_false, Nat.zero_add, Nat.lt_irrefl, Value.oneCell', gt_iff_lt, Nat.reduceLeDiff, Nat.lt_add_one, List.length_append, vvar_1, vzero_1, vvar_2, vzero_2, vknd_2, vsn_2, vvar_3, vzero_3, vknd_3, vsn_3, vvar_4, vzero_4, vknd_4, vsn_4, vvar_26, vzero_26, vbld_26, vpts_26, vsl_33, vkn_33, vvar_33, vzero_33, vsl_43, vkn_43, vvar_43, vzero_43, vvar_94, vzero_94, vfld_26_0, toNat_add3, toNat_sub3, lineTo_up]; try simp (disch := omega) only [wrap64])
    | (with_reducible refine vcL_nil ?_)
    | (with_reducible refine vcL_cons fun K' hK' => ?_; simp only [vAppend, elems, ↓reduceDIte, List.take_length, Nat.le_refl, List.drop_zero, vGuard, undef, Bool.not_eq_eq_eq_not, dstOk, vcOp, vcF, isPure, putS, vcCall, St.ev, St.put, lk, AVal.ofVal, initS, Nat.reduceLT, true_and, and_true, vBin, vUn, vPick, vConv, vPart, vLoad, vStore, vIdxA, vIdx, vFldA, vExt, vLen, vMin, vNil, vAlloc, vBox, vBuild, vBuildSl, vMake, vSlice, bnd, partsA, fillA, decAll, AVal.flat, AVal.cell, cellsOk, setRange, ETy.enc, ETy.dec, ETy.sz, ETy.d, cond, Nat.reduceBEq, Nat.reduceAdd, Int.toNat_natCast, List.length_set, List.length_append, List.length_replicate, List.length_take, Nat.reduceSub, Nat.reduceEqDiff, get_loc, setBox_loc, next_eq, List.length_cons, List.length_nil, List.map_cons, List.map_nil, List.append_nil, List.nil_append, List.cons_append, List.set_cons_zero, List.set_cons_succ, getD_zero, getD_succ, List.getElem?_cons_succ, List.getElem?_cons_zero, List.take_succ_cons, List.take_zero, List.drop_succ_cons, List.drop_zero, List.all_cons, List.all_nil, Bool.and_true, Bool.true_and, Option.bind_some, Option.map_some, Option.map_none, decide_eq_true_eq, decide_eq_false_iff_not, ne_eq, Bool.not_eq_true, Bool.not_eq_false, Decidable.not_not, not_true_eq_false, not_false_eq_true, forall_const, false_implies, Bool.true_eq_false, Bool.false_eq_true, reduceCtorEq, decide_true, decide_false, Bool.not_true, Bool.not_false, if_true, if_false, Nat.zero_add, Nat.lt_irrefl, Value.oneCell', gt_iff_lt, Nat.reduceLeDiff, Nat.lt_add_one, List.length_append, vvar_1, vzero_1, vvar_2, vzero_2, vknd_2, vsn_2, vvar_3, vzero_3, vknd_3, vsn_3, vvar_4, vzero_4, vknd_4, vsn_4, vvar_26, vzero_26, vbld_26, vpts_26, vsl_33, vkn_33, vvar_33, vzero_33, vsl_43, vkn_43, vvar_43, vzero_43, vvar_94, vzero_94, vfld_26_0, toNat_add3, toNat_sub3, lineTo_up]; try simp (disch := omega) only [wrap64])
    | (with_reducible refine hK' _ ?_; clear hK' K')
    | (with_reducible refine hK _ ?_; clear hK K)
    | (with_reducible refine vCall_base (to113a_ac _ _ _ _ _ nr1 nr2 (by omega) _ hB) ?_)
    | (with_reducible refine vCall_base (to113a_ac _ _ _ _ _ nr1 nrT (by omega) _ hB) ?_)
    | (with_reducible refine vCall_base (to113b_ac _ _ _ _ _ nr2 nr3 (by omega) _ hB) ?_)
    | (with_reducible refine AW.mid (x := .seq (.region 9 _ _) _) (⟨102, [(0, .rd (.int .i64) (xs)), (1, .rd (.int .i64) (ys)), (2, .v (.int .i64 ((t : Int)))), (3, .v (.int .i64 ((i : Int)))), (9, .ptr 1 (H.length + 0) 0 0), (10, .ptr 1 (H.length + 2) 0 0), (11, .fn 113 [.ptr 1 (H.length + 2) 0 0, .ptr 1 (H.length + 0) 0 0]), (12, .v (.int .i64 ((k : Int) + 1))), (13, .v (.int .i64 (m1)))], H, [.box false [.v (.int .i64 (xAt xs ys i k)), .v (.int .i64 ((k : Int) + 1))], .dead, .box false [.sl 2 (H.length + 3) 0 (L1.length)], .row false .pt (L1)]⟩ : St) ?_ ?_)
    | (with_reducible refine AW.mid (x := .seq (.region 12 _ _) _) (⟨102, [(0, .rd (.int .i64) (xs)), (1, .rd (.int .i64) (ys)), (2, .v (.int .i64 ((t : Int)))), (3, .v (.int .i64 ((i : Int)))), (9, .ptr 1 (H.length + 0) 0 0), (10, .ptr 1 (H.length + 2) 0 0), (11, .fn 113 [.ptr 1 (H.length + 2) 0 0, .ptr 1 (H.length + 0) 0 0]), (12, .v (.int .i64 ((k : Int) + 1))), (13, .v (.int .i64 (xAt xs ys i (k + 1))))], H, [.box false [.v (.int .i64 (xAt xs ys i k)), .v (.int .i64 ((k : Int) + 1))], .dead, .box false [.sl 2 (H.length + 3) 0 (L1.length)], .row false .pt (L1)]⟩ : St) ?_ ?_)
    | (with_reducible refine And.intro (And.intro rfl rfl) ?_)
    | (with_reducible refine And.intro (by omega) ?_)
    | (with_reducible refine And.intro (fun hg => ?_) (fun hg => ?_) <;> first | simp only [eq_false hg, decide_true, decide_false, and_true, true_and, and_false, false_and, not_true_eq_false, not_false_eq_true] | simp only [eq_true hg, decide_true, decide_false, and_true, true_and, and_false, false_and, not_true_eq_false, not_false_eq_true] | simp only [hg, decide_true, decide_false, and_true, true_and, and_false, false_and, not_true_eq_false, not_false_eq_true])
    | (with_reducible refine And.intro rfl (And.intro rfl rfl))
    | (with_reducible refine thenQ_n ?_)
    | (with_reducible refine thenQ_exit ?_)
    | (with_reducible refine thenQ_ret ?_)
    | (with_reducible refine midQ_ret ?_)
    | (with_reducible refine midQ_exit ?_)
    | (with_reducible refine blockQ_same ?_)
    | (with_reducible refine blockQ_ret ?_)
    | (with_reducible refine blockQ_n ?_)
    | (with_reducible refine AW.exit ?_)
    | (with_reducible refine AW.block ?_)
    | (with_reducible refine AW.cond_t rfl ?_)
    | (with_reducible refine AW.cond_f rfl ?_)
    | (with_reducible refine AW.cond_dec rfl (fun hc => ?_) (fun hc => ?_))
    | (with_reducible refine AW.cond rfl (fun hc => ?_) (fun hc => ?_) <;> try simp only [Bool.not_eq_eq_eq_not, Bool.not_true, Bool.not_false, decide_eq_true_eq, decide_eq_false_iff_not] at hc)
    | (with_reducible refine AW.seq ?_)
    | (with_reducible refine AW.skip ?_)
    | (with_reducible refine AW.ret ?_)
    | (with_reducible refine And.intro ?_ ?_)
    | (with_reducible intro hg; first | simp only [eq_false hg, decide_true, decide_false, and_true, true_and, and_false, false_and, not_true_eq_false, not_false_eq_true] | simp only [eq_true hg, decide_true, decide_false, and_true, true_and, and_false, false_and, not_true_eq_false, not_false_eq_true])
    | (with_reducible refine retQ_drop ?_; simp only [vRes, packRes, vLoad, vPart, lk, cond, Nat.reduceBEq, get_loc, getD_zero, getD_succ, true_and, List.length_cons, List.length_nil, Nat.reduceAdd, Nat.reduceLT, Nat.reduceLeDiff, List.take_succ_cons, List.take_zero, List.drop_succ_cons, List.drop_zero, vvar_1, vzero_1, vvar_2, vzero_2, vknd_2, vsn_2, vvar_3, vzero_3, vknd_3, vsn_3, vvar_4, vzero_4, vknd_4, vsn_4, vvar_26, vzero_26, vbld_26, vpts_26, vsl_33, vkn_33, vvar_33, vzero_33, vsl_43, vkn_43, vvar_43, vzero_43, vvar_94, vzero_94, vfld_26_0])
    )
  case refine_2.refine_2 =>
    obtain rfl : k = t := by omega
    rw [lineTo_up]
    exact ⟨_, _, FinOk.seal 3 .pt (pathF xs ys k i) hB (by simp) (by rw [hL]; rfl) (SealV.whole rfl (by simp [pathF, hL])) (Pl.rd rfl _).ids, rfl, rfl⟩
  case refine_2.refine_1.refine_2.refine_2 =>
    refine ⟨(k + 1, L1 ++ lineTo (xAt xs ys i k, (k : Int) + 1) (xAt xs ys i (k + 1), (k : Int) + 1)), ⟨by simp only; omega, by simp only [pathTo]; rw [hL1, hL]⟩, by simp only; omega, ?_⟩
    simp only [List.length_append]
    exact (Weak.sel [0, 4, 2] hB (by decide) (by (repeat' (first | exact trivial | exact RenB.plRow rfl | exact RenB.dead _ | refine And.intro ?_ ?_ | (refine RenB.plBox ?_; (repeat' (first | exact Pl.v _ | exact Pl.junk | exact Pl.rd rfl _ | exact pl_nil | refine pl_cons ?_ ?_ | refine Pl.agg ?_ | refine Pl.tup ?_ | refine Pl.rp ?_ | refine Pl.fn ?_)); done) | refine RenB.of ?_ | exact RenV.ptr rfl | exact RenV.sl rfl | (refine RenV.pl ?_; (repeat' (first | exact Pl.v _ | exact Pl.junk | exact Pl.rd rfl _ | exact pl_nil | refine pl_cons ?_ ?_ | refine Pl.agg ?_ | refine Pl.tup ?_ | refine Pl.rp ?_ | refine Pl.fn ?_)); done) | refine RenV.aggL ?_ | refine RenV.fnL ?_ | exact Nat.lt_of_sub_pos (by decide) | (simp; done))); done) (by (repeat' (first | exact trivial | exact RenV.ptr rfl | exact RenV.sl rfl | exact RenV.low (.v _) | (refine RenV.pl ?_; (repeat' (first | exact Pl.v _ | exact Pl.junk | exact Pl.rd rfl _ | exact pl_nil | refine pl_cons ?_ ?_ | refine Pl.agg ?_ | refine Pl.tup ?_ | refine Pl.rp ?_ | refine Pl.fn ?_)); done) | refine RenV.fnL ?_ | refine RenV.aggL ?_ | refine And.intro ?_ ?_)); done))
  case refine_2.refine_1.refine_2.refine_1.refine_3.refine_1.refine_1 =>
    have e : xAt xs ys i (k + 1) = max m1 (ys.getD (i - (k + 1)) 0 + ((k : Int) + 1)) := by
      rw [if_neg (by omega)] at hm1
      rw [hm1]; exact trackTo_max (by omega) ⟨hg, by omega⟩
    rw [e]
    exact (Weak.slots (by repeat' first | exact trivial | exact ⟨rfl, trivial⟩ | refine ⟨rfl, ?_⟩))
  case refine_2.refine_1.refine_2.refine_1.refine_3.refine_1.refine_2 =>
    have e : xAt xs ys i (k + 1) = m1 := by
      rw [if_neg (by omega)] at hm1
      rw [hm1]; exact trackTo_end (by omega) (by omega)
    rw [e]
    exact (Weak.slots (by repeat' first | exact trivial | exact ⟨rfl, trivial⟩ | refine ⟨rfl, ?_⟩))
  case refine_2.refine_1.refine_2.refine_1.refine_3.refine_2 =>
    have e : xAt xs ys i (k + 1) = m1 := by
      rw [hm1]
      split
      · exact trackTo_min (by assumption)
      · exact trackTo_end (by assumption) (fun h => hg h.1)
    rw [e]
    exact (Weak.slots (by repeat' first | exact trivial | exact ⟨rfl, trivial⟩ | refine ⟨rfl, ?_⟩))
  all_goals have e := hm1
  all_goals split at e
  all_goals try (exfalso; omega)
  all_goals rw [hL1, List.length_append, e]
  all_goals exact (Weak.slots (by repeat' first | exact trivial | exact ⟨rfl, trivial⟩ | refine ⟨rfl, ?_⟩))
end Go.Proofs.Ytlkamicaoljefaa

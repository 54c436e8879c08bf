/- Walks: lists joined by the library; is a channel valid, by the program's map of counts. -/
import Derived.Test.YtlgagjboijkpgaaDoorCW2
set_option linter.unusedSimpArgs false
set_option linter.unusedVariables false
set_option maxHeartbeats 1000000
namespace Go.Proofs.YtlgagjboijkpgaaDoor
open Go.Eng

theorem flat_succ (ls : List (List Int)) {i : Nat} (h : i < ls.length) : (ls.take (i + 1)).flatten = (ls.take i).flatten ++ ls.getD i [] := by
  rw [List.take_add_one, List.getElem?_eq_getElem h, List.flatten_append]
  simp [List.getD, h]
theorem conc52_ac (ls : List (List Int)) (hl : ls.length ≤ 100000) (hp : 0 < ls.flatten.length) (hb : ∀ i, (ls.take i).flatten.length ≤ 1000000) (hb2 : ∀ i, (ls.getD i []).length ≤ 1000000) (H : List ABox) : AC Tryd.prog 103 [.rd (.sli .i64) (ls)] H
    (fun r H' => r = .sl 1 (H.length + 0) 0 ls.flatten.length ∧ H' = H ++ [.row false (.int .i64) ls.flatten]) := by
  refine AC.enter envOk Tryd.func103 rfl (by decide) Tryd.ntmps103 Tryd.results103 (by simp) fun hB => ?_
  repeat' (first
    | (with_reducible refine AW.sreg envOk fun K hK => ?_)
    | (with_reducible refine AW.region envOk fun K hK => ?_)
    | (with_reducible refine vcL_nil ?_)
    | (with_reducible refine vcL_cons fun K' hK' => ?_; simp only [isC, Bool.false_or, Bool.or_true, vAppend, elems, ↓reduceDIte, List.take_length, Nat.le_refl, List.drop_zero, vGuard, undef, Bool.not_eq_eq_eq_not, dstOk, vcOp, vcF, isPure, putS, vcCall, St.ev, St.put, lk, AVal.ofVal, initS, Nat.reduceLT, true_and, and_true, vBin, vUn, vPick, vConv, vPart, vLoad, vStore, vIdxA, vIdx, vFldA, vExt, vLen, vMin, vNil, vAlloc, vBox, vBuild, vBuildSl, vMake, vSlice, bnd, partsA, fillA, decAll, AVal.flat, AVal.cell, cellsOk, setRange, ETy.enc, ETy.dec, ETy.sz, ETy.d, cond, Nat.reduceBEq, Nat.reduceAdd, Int.toNat_natCast, List.length_set, List.length_append, List.length_replicate, List.length_take, Nat.reduceSub, Nat.reduceEqDiff, get_loc, setBox_loc, next_eq, List.length_cons, List.length_nil, List.map_cons, List.map_nil, List.append_nil, List.nil_append, List.cons_append, List.set_cons_zero, List.set_cons_succ, getD_zero, getD_succ, List.getElem?_cons_succ, List.getElem?_cons_zero, List.take_succ_cons, List.take_zero, List.drop_succ_cons, List.drop_zero, List.all_cons, List.all_nil, Bool.and_true, Bool.true_and, Option.bind_some, Option.map_some, Option.map_none, decide_eq_true_eq, decide_eq_false_iff_not, ne_eq, Bool.not_eq_true, Bool.not_eq_false, Decidable.not_not, not_true_eq_false, not_false_eq_true, forall_const, false_implies, Bool.true_eq_false, Bool.false_eq_true, reduceCtorEq, decide_true, decide_false, Bool.not_true, Bool.not_false, if_true, if_false, Nat.zero_add, Nat.lt_irrefl, Value.oneCell', gt_iff_lt, Nat.reduceLeDiff, Nat.lt_add_one, List.length_append, vMakeMap, vLookup, vMapUpd, vMapEnt, vEntSt, vRange, vEntry, KK.of, KK.av, lkRes, entry_last, vvar_3, vzero_3, vknd_3, vsn_3, vvar_4, vzero_4, vknd_4, vsn_4, vifc_20, vsl_27, vkn_27, vvar_27, vzero_27, vsl_46, vkn_46, vvar_46, vzero_46]; try simp (disch := omega) only [wrap64])
    | (with_reducible refine hK' _ ?_; clear hK' K')
    | (with_reducible refine hK _ ?_; clear hK K)
    | (with_reducible refine And.intro (And.intro rfl rfl) ?_)
    | (with_reducible refine And.intro (by omega) ?_)
    | (with_reducible refine And.intro (fun hg => ?_) (fun hg => ?_) <;> first | simp only [eq_false hg, decide_true, decide_false, and_true, true_and, and_false, false_and, not_true_eq_false, not_false_eq_true] | simp only [eq_true hg, decide_true, decide_false, and_true, true_and, and_false, false_and, not_true_eq_false, not_false_eq_true] | simp only [hg, decide_true, decide_false, and_true, true_and, and_false, false_and, not_true_eq_false, not_false_eq_true])
    | (with_reducible refine And.intro rfl (And.intro rfl rfl))
    | (with_reducible refine thenQ_n ?_)
    | (with_reducible refine thenQ_exit ?_)
    | (with_reducible refine thenQ_ret ?_)
    | (with_reducible refine midQ_ret ?_)
    | (with_reducible refine midQ_exit ?_)
    | (with_reducible refine blockQ_same ?_)
    | (with_reducible refine blockQ_ret ?_)
    | (with_reducible refine blockQ_n ?_)
    | (with_reducible refine AW.exit ?_)
    | (with_reducible refine AW.block ?_)
    | (with_reducible refine AW.cond_t rfl ?_)
    | (with_reducible refine AW.cond_f rfl ?_)
    | (with_reducible refine AW.cond_dec rfl (fun hc => ?_) (fun hc => ?_))
    | (with_reducible refine AW.cond rfl (fun hc => ?_) (fun hc => ?_) <;> try simp only [Bool.not_eq_eq_eq_not, Bool.not_true, Bool.not_false, decide_eq_true_eq, decide_eq_false_iff_not] at hc)
    | (with_reducible refine AW.seq ?_)
    | (with_reducible refine AW.skip ?_)
    | (with_reducible refine AW.ret ?_)
    | (with_reducible refine And.intro ?_ ?_)
    | (with_reducible intro hg; first | simp only [eq_false hg, decide_true, decide_false, and_true, true_and, and_false, false_and, not_true_eq_false, not_false_eq_true] | simp only [eq_true hg, decide_true, decide_false, and_true, true_and, and_false, false_and, not_true_eq_false, not_false_eq_true])
    | (with_reducible refine retQ_drop ?_; simp only [vRes, packRes, vLoad, vPart, lk, cond, Nat.reduceBEq, get_loc, getD_zero, getD_succ, true_and, List.length_cons, List.length_nil, Nat.reduceAdd, Nat.reduceLT, Nat.reduceLeDiff, List.take_succ_cons, List.take_zero, List.drop_succ_cons, List.drop_zero, vvar_3, vzero_3, vknd_3, vsn_3, vvar_4, vzero_4, vknd_4, vsn_4, vifc_20, vsl_27, vkn_27, vvar_27, vzero_27, vsl_46, vkn_46, vvar_46, vzero_46])
    )
  refine AW.loop (fun i : Nat => (⟨36, [(0, .rd (.sli .i64) (ls)), (3, .v (.int .i64 (((ls.take i).flatten.length : Int)))), (9, .rd (.sli .i64) (ls)), (10, .v (.int .i64 ((ls.length : Int)))), (11, .v (.int .i64 ((i : Int))))], H, []⟩ : St)) (fun i => i ≤ ls.length) (fun i => ls.length - i) 0 (Nat.zero_le _) ?_ ?_
  · rw [show (ls.take 0).flatten.length = 0 by simp]
    exact (Weak.slots (by repeat' first | exact trivial | exact ⟨rfl, trivial⟩ | refine ⟨rfl, ?_⟩))
  · intro i hi
    have b1 := hb i
    have b2 := hb2 i
    repeat' (first
      | (with_reducible refine AW.sreg envOk fun K hK => ?_)
      | (with_reducible refine AW.region envOk fun K hK => ?_)
      | (with_reducible refine vcL_nil ?_)
      | (with_reducible refine vcL_cons fun K' hK' => ?_; simp only [isC, Bool.false_or, Bool.or_true, vAppend, elems, ↓reduceDIte, List.take_length, Nat.le_refl, List.drop_zero, vGuard, undef, Bool.not_eq_eq_eq_not, dstOk, vcOp, vcF, isPure, putS, vcCall, St.ev, St.put, lk, AVal.ofVal, initS, Nat.reduceLT, true_and, and_true, vBin, vUn, vPick, vConv, vPart, vLoad, vStore, vIdxA, vIdx, vFldA, vExt, vLen, vMin, vNil, vAlloc, vBox, vBuild, vBuildSl, vMake, vSlice, bnd, partsA, fillA, decAll, AVal.flat, AVal.cell, cellsOk, setRange, ETy.enc, ETy.dec, ETy.sz, ETy.d, cond, Nat.reduceBEq, Nat.reduceAdd, Int.toNat_natCast, List.length_set, List.length_append, List.length_replicate, List.length_take, Nat.reduceSub, Nat.reduceEqDiff, get_loc, setBox_loc, next_eq, List.length_cons, List.length_nil, List.map_cons, List.map_nil, List.append_nil, List.nil_append, List.cons_append, List.set_cons_zero, List.set_cons_succ, getD_zero, getD_succ, List.getElem?_cons_succ, List.getElem?_cons_zero, List.take_succ_cons, List.take_zero, List.drop_succ_cons, List.drop_zero, List.all_cons, List.all_nil, Bool.and_true, Bool.true_and, Option.bind_some, Option.map_some, Option.map_none, decide_eq_true_eq, decide_eq_false_iff_not, ne_eq, Bool.not_eq_true, Bool.not_eq_false, Decidable.not_not, not_true_eq_false, not_false_eq_true, forall_const, false_implies, Bool.true_eq_false, Bool.false_eq_true, reduceCtorEq, decide_true, decide_false, Bool.not_true, Bool.not_false, if_true, if_false, Nat.zero_add, Nat.lt_irrefl, Value.oneCell', gt_iff_lt, Nat.reduceLeDiff, Nat.lt_add_one, List.length_append, vMakeMap, vLookup, vMapUpd, vMapEnt, vEntSt, vRange, vEntry, KK.of, KK.av, lkRes, entry_last, vvar_3, vzero_3, vknd_3, vsn_3, vvar_4, vzero_4, vknd_4, vsn_4, vifc_20, vsl_27, vkn_27, vvar_27, vzero_27, vsl_46, vkn_46, vvar_46, vzero_46]; try simp (disch := omega) only [wrap64])
      | (with_reducible refine hK' _ ?_; clear hK' K')
      | (with_reducible refine hK _ ?_; clear hK K)
      | (with_reducible refine And.intro (And.intro rfl rfl) ?_)
      | (with_reducible refine And.intro (by omega) ?_)
      | (with_reducible refine And.intro (fun hg => ?_) (fun hg => ?_) <;> first | simp only [eq_false hg, decide_true, decide_false, and_true, true_and, and_false, false_and, not_true_eq_false, not_false_eq_true] | simp only [eq_true hg, decide_true, decide_false, and_true, true_and, and_false, false_and, not_true_eq_false, not_false_eq_true] | simp only [hg, decide_true, decide_false, and_true, true_and, and_false, false_and, not_true_eq_false, not_false_eq_true])
      | (with_reducible refine And.intro rfl (And.intro rfl rfl))
      | (with_reducible refine thenQ_n ?_)
      | (with_reducible refine thenQ_exit ?_)
      | (with_reducible refine thenQ_ret ?_)
      | (with_reducible refine midQ_ret ?_)
      | (with_reducible refine midQ_exit ?_)
      | (with_reducible refine blockQ_same ?_)
      | (with_reducible refine blockQ_ret ?_)
      | (with_reducible refine blockQ_n ?_)
      | (with_reducible refine AW.exit ?_)
      | (with_reducible refine AW.block ?_)
      | (with_reducible refine AW.cond_t rfl ?_)
      | (with_reducible refine AW.cond_f rfl ?_)
      | (with_reducible refine AW.cond_dec rfl (fun hc => ?_) (fun hc => ?_))
      | (with_reducible refine AW.cond rfl (fun hc => ?_) (fun hc => ?_) <;> try simp only [Bool.not_eq_eq_eq_not, Bool.not_true, Bool.not_false, decide_eq_true_eq, decide_eq_false_iff_not] at hc)
      | (with_reducible refine AW.seq ?_)
      | (with_reducible refine AW.skip ?_)
      | (with_reducible refine AW.ret ?_)
      | (with_reducible refine And.intro ?_ ?_)
      | (with_reducible intro hg; first | simp only [eq_false hg, decide_true, decide_false, and_true, true_and, and_false, false_and, not_true_eq_false, not_false_eq_true] | simp only [eq_true hg, decide_true, decide_false, and_true, true_and, and_false, false_and, not_true_eq_false, not_false_eq_true])
      | (with_reducible refine retQ_drop ?_; simp only [vRes, packRes, vLoad, vPart, lk, cond, Nat.reduceBEq, get_loc, getD_zero, getD_succ, true_and, List.length_cons, List.length_nil, Nat.reduceAdd, Nat.reduceLT, Nat.reduceLeDiff, List.take_succ_cons, List.take_zero, List.drop_succ_cons, List.drop_zero, vvar_3, vzero_3, vknd_3, vsn_3, vvar_4, vzero_4, vknd_4, vsn_4, vifc_20, vsl_27, vkn_27, vvar_27, vzero_27, vsl_46, vkn_46, vvar_46, vzero_46])
      )
    · refine ⟨i + 1, by omega, by omega, ?_⟩
      rw [flat_succ ls (by omega), List.length_append]
      exact (Weak.slots (by repeat' first | exact trivial | exact ⟨rfl, trivial⟩ | refine ⟨rfl, ?_⟩))
    · obtain rfl : i = ls.length := by omega
      have hfl : (ls.take ls.length).flatten.length = ls.flatten.length := by rw [List.take_length]
      have b3 := hb ls.length
      rw [hfl] at b3 ⊢
      repeat' (first
        | (with_reducible refine AW.sreg envOk fun K hK => ?_)
        | (with_reducible refine AW.region envOk fun K hK => ?_)
        | (with_reducible refine vcL_nil ?_)
        | (with_reducible refine vcL_cons fun K' hK' => ?_; simp only [isC, Bool.false_or, Bool.or_true, vAppend, elems, ↓reduceDIte, List.take_length, Nat.le_refl, List.drop_zero, vGuard, undef, Bool.not_eq_eq_eq_not, dstOk, vcOp, vcF, isPure, putS, vcCall, St.ev, St.put, lk, AVal.ofVal, initS, Nat.reduceLT, true_and, and_true, vBin, vUn, vPick, vConv, vPart, vLoad, vStore, vIdxA, vIdx, vFldA, vExt, vLen, vMin, vNil, vAlloc, vBox, vBuild, vBuildSl, vMake, vSlice, bnd, partsA, fillA, decAll, AVal.flat, AVal.cell, cellsOk, setRange, ETy.enc, ETy.dec, ETy.sz, ETy.d, cond, Nat.reduceBEq, Nat.reduceAdd, Int.toNat_natCast, List.length_set, List.length_append, List.length_replicate, List.length_take, Nat.reduceSub, Nat.reduceEqDiff, get_loc, setBox_loc, next_eq, List.length_cons, List.length_nil, List.map_cons, List.map_nil, List.append_nil, List.nil_append, List.cons_append, List.set_cons_zero, List.set_cons_succ, getD_zero, getD_succ, List.getElem?_cons_succ, List.getElem?_cons_zero, List.take_succ_cons, List.take_zero, List.drop_succ_cons, List.drop_zero, List.all_cons, List.all_nil, Bool.and_true, Bool.true_and, Option.bind_some, Option.map_some, Option.map_none, decide_eq_true_eq, decide_eq_false_iff_not, ne_eq, Bool.not_eq_true, Bool.not_eq_false, Decidable.not_not, not_true_eq_false, not_false_eq_true, forall_const, false_implies, Bool.true_eq_false, Bool.false_eq_true, reduceCtorEq, decide_true, decide_false, Bool.not_true, Bool.not_false, if_true, if_false, Nat.zero_add, Nat.lt_irrefl, Value.oneCell', gt_iff_lt, Nat.reduceLeDiff, Nat.lt_add_one, List.length_append, vMakeMap, vLookup, vMapUpd, vMapEnt, vEntSt, vRange, vEntry, KK.of, KK.av, lkRes, entry_last, vvar_3, vzero_3, vknd_3, vsn_3, vvar_4, vzero_4, vknd_4, vsn_4, vifc_20, vsl_27, vkn_27, vvar_27, vzero_27, vsl_46, vkn_46, vvar_46, vzero_46]; try simp (disch := omega) only [wrap64])
        | (with_reducible refine hK' _ ?_; clear hK' K')
        | (with_reducible refine hK _ ?_; clear hK K)
        | ((with_reducible show vCall _ (AVal.fn 121 _) _ _ _); refine vCall_newE (grow79_ac ls.flatten.length hp b3 _) (by simp only [List.length_append, List.length_cons, List.length_nil, Nat.reduceAdd]; rfl) ?_)
        | (with_reducible refine And.intro (And.intro rfl rfl) ?_)
        | (with_reducible refine And.intro (by omega) ?_)
        | (with_reducible refine And.intro (fun hg => ?_) (fun hg => ?_) <;> first | simp only [eq_false hg, decide_true, decide_false, and_true, true_and, and_false, false_and, not_true_eq_false, not_false_eq_true] | simp only [eq_true hg, decide_true, decide_false, and_true, true_and, and_false, false_and, not_true_eq_false, not_false_eq_true] | simp only [hg, decide_true, decide_false, and_true, true_and, and_false, false_and, not_true_eq_false, not_false_eq_true])
        | (with_reducible refine And.intro rfl (And.intro rfl rfl))
        | (with_reducible refine thenQ_n ?_)
        | (with_reducible refine thenQ_exit ?_)
        | (with_reducible refine thenQ_ret ?_)
        | (with_reducible refine midQ_ret ?_)
        | (with_reducible refine midQ_exit ?_)
        | (with_reducible refine blockQ_same ?_)
        | (with_reducible refine blockQ_ret ?_)
        | (with_reducible refine blockQ_n ?_)
        | (with_reducible refine AW.exit ?_)
        | (with_reducible refine AW.block ?_)
        | (with_reducible refine AW.cond_t rfl ?_)
        | (with_reducible refine AW.cond_f rfl ?_)
        | (with_reducible refine AW.cond_dec rfl (fun hc => ?_) (fun hc => ?_))
        | (with_reducible refine AW.cond rfl (fun hc => ?_) (fun hc => ?_) <;> try simp only [Bool.not_eq_eq_eq_not, Bool.not_true, Bool.not_false, decide_eq_true_eq, decide_eq_false_iff_not] at hc)
        | (with_reducible refine AW.seq ?_)
        | (with_reducible refine AW.skip ?_)
        | (with_reducible refine AW.ret ?_)
        | (with_reducible refine And.intro ?_ ?_)
        | (with_reducible intro hg; first | simp only [eq_false hg, decide_true, decide_false, and_true, true_and, and_false, false_and, not_true_eq_false, not_false_eq_true] | simp only [eq_true hg, decide_true, decide_false, and_true, true_and, and_false, false_and, not_true_eq_false, not_false_eq_true])
        | (with_reducible refine retQ_drop ?_; simp only [vRes, packRes, vLoad, vPart, lk, cond, Nat.reduceBEq, get_loc, getD_zero, getD_succ, true_and, List.length_cons, List.length_nil, Nat.reduceAdd, Nat.reduceLT, Nat.reduceLeDiff, List.take_succ_cons, List.take_zero, List.drop_succ_cons, List.drop_zero, vvar_3, vzero_3, vknd_3, vsn_3, vvar_4, vzero_4, vknd_4, vsn_4, vifc_20, vsl_27, vkn_27, vvar_27, vzero_27, vsl_46, vkn_46, vvar_46, vzero_46])
        )
      refine AW.loop (fun z : Nat × List Int => (⟨36, [(6, .sl 1 (H.length + 0) 0 ((ls.take z.1).flatten.length)), (25, .rd (.sli .i64) (ls)), (26, .v (.int .i64 ((ls.length : Int)))), (27, .v (.int .i64 ((z.1 : Int))))], H, [.row false (.int .i64) (z.2)]⟩ : St)) (fun z => z.1 ≤ ls.length ∧ ((z.1 = 0 ∧ z.2 = List.replicate ls.flatten.length 0) ∨ (0 < z.1 ∧ z.2 = (ls.take z.1).flatten))) (fun z => ls.length - z.1) (0, List.replicate ls.flatten.length 0) ⟨Nat.zero_le _, .inl ⟨rfl, rfl⟩⟩ ?_ ?_
      · rw [show (ls.take (0, List.replicate ls.flatten.length (0 : Int)).1).flatten.length = 0 by simp]
        exact (Weak.slots (by repeat' first | exact trivial | exact ⟨rfl, trivial⟩ | refine ⟨rfl, ?_⟩))
      intro ⟨i, zs⟩ ⟨hi, hz⟩
      simp only at hi hz ⊢
      have b1 := hb i
      have b2 := hb2 i
      have hzl : (ls.take i).flatten.length ≤ zs.length ∧ zs.take (ls.take i).flatten.length = (ls.take i).flatten := by
        rcases hz with ⟨rfl, rfl⟩ | ⟨_, rfl⟩
        · simp
        · exact ⟨Nat.le_refl _, List.take_length⟩
      have hz1 := hzl.1
      repeat' (first
        | (with_reducible refine AW.sreg envOk fun K hK => ?_)
        | (with_reducible refine AW.region envOk fun K hK => ?_)
        | (with_reducible refine vcL_nil ?_)
        | (with_reducible refine vcL_cons fun K' hK' => ?_; simp only [isC, Bool.false_or, Bool.or_true, vAppend, elems, ↓reduceDIte, List.take_length, Nat.le_refl, List.drop_zero, vGuard, undef, Bool.not_eq_eq_eq_not, dstOk, vcOp, vcF, isPure, putS, vcCall, St.ev, St.put, lk, AVal.ofVal, initS, Nat.reduceLT, true_and, and_true, vBin, vUn, vPick, vConv, vPart, vLoad, vStore, vIdxA, vIdx, vFldA, vExt, vLen, vMin, vNil, vAlloc, vBox, vBuild, vBuildSl, vMake, vSlice, bnd, partsA, fillA, decAll, AVal.flat, AVal.cell, cellsOk, setRange, ETy.enc, ETy.dec, ETy.sz, ETy.d, cond, Nat.reduceBEq, Nat.reduceAdd, Int.toNat_natCast, List.length_set, List.length_append, List.length_replicate, List.length_take, Nat.reduceSub, Nat.reduceEqDiff, get_loc, setBox_loc, next_eq, List.length_cons, List.length_nil, List.map_cons, List.map_nil, List.append_nil, List.nil_append, List.cons_append, List.set_cons_zero, List.set_cons_succ, getD_zero, getD_succ, List.getElem?_cons_succ, List.getElem?_cons_zero, List.take_succ_cons, List.take_zero, List.drop_succ_cons, List.drop_zero, List.all_cons, List.all_nil, Bool.and_true, Bool.true_and, Option.bind_some, Option.map_some, Option.map_none, decide_eq_true_eq, decide_eq_false_iff_not, ne_eq, Bool.not_eq_true, Bool.not_eq_false, Decidable.not_not, not_true_eq_false, not_false_eq_true, forall_const, false_implies, Bool.true_eq_false, Bool.false_eq_true, reduceCtorEq, decide_true, decide_false, Bool.not_true, Bool.not_false, if_true, if_false, Nat.zero_add, Nat.lt_irrefl, Value.oneCell', gt_iff_lt, Nat.reduceLeDiff, Nat.lt_add_one, List.length_append, vMakeMap, vLookup, vMapUpd, vMapEnt, vEntSt, vRange, vEntry, KK.of, KK.av, lkRes, entry_last, vvar_3, vzero_3, vknd_3, vsn_3, vvar_4, vzero_4, vknd_4, vsn_4, vifc_20, vsl_27, vkn_27, vvar_27, vzero_27, vsl_46, vkn_46, vvar_46, vzero_46]; try simp (disch := omega) only [wrap64])
        | (with_reducible refine hK' _ ?_; clear hK' K')
        | (with_reducible refine hK _ ?_; clear hK K)
        | (with_reducible refine And.intro (And.intro rfl rfl) ?_)
        | (with_reducible refine And.intro (by omega) ?_)
        | (with_reducible refine And.intro (fun hg => ?_) (fun hg => ?_) <;> first | simp only [eq_false hg, decide_true, decide_false, and_true, true_and, and_false, false_and, not_true_eq_false, not_false_eq_true] | simp only [eq_true hg, decide_true, decide_false, and_true, true_and, and_false, false_and, not_true_eq_false, not_false_eq_true] | simp only [hg, decide_true, decide_false, and_true, true_and, and_false, false_and, not_true_eq_false, not_false_eq_true])
        | (with_reducible refine And.intro rfl (And.intro rfl rfl))
        | (with_reducible refine thenQ_n ?_)
        | (with_reducible refine thenQ_exit ?_)
        | (with_reducible refine thenQ_ret ?_)
        | (with_reducible refine midQ_ret ?_)
        | (with_reducible refine midQ_exit ?_)
        | (with_reducible refine blockQ_same ?_)
        | (with_reducible refine blockQ_ret ?_)
        | (with_reducible refine blockQ_n ?_)
        | (with_reducible refine AW.exit ?_)
        | (with_reducible refine AW.block ?_)
        | (with_reducible refine AW.cond_t rfl ?_)
        | (with_reducible refine AW.cond_f rfl ?_)
        | (with_reducible refine AW.cond_dec rfl (fun hc => ?_) (fun hc => ?_))
        | (with_reducible refine AW.cond rfl (fun hc => ?_) (fun hc => ?_) <;> try simp only [Bool.not_eq_eq_eq_not, Bool.not_true, Bool.not_false, decide_eq_true_eq, decide_eq_false_iff_not] at hc)
        | (with_reducible refine AW.seq ?_)
        | (with_reducible refine AW.skip ?_)
        | (with_reducible refine AW.ret ?_)
        | (with_reducible refine And.intro ?_ ?_)
        | (with_reducible intro hg; first | simp only [eq_false hg, decide_true, decide_false, and_true, true_and, and_false, false_and, not_true_eq_false, not_false_eq_true] | simp only [eq_true hg, decide_true, decide_false, and_true, true_and, and_false, false_and, not_true_eq_false, not_false_eq_true])
        | (with_reducible refine retQ_drop ?_; simp only [vRes, packRes, vLoad, vPart, lk, cond, Nat.reduceBEq, get_loc, getD_zero, getD_succ, true_and, List.length_cons, List.length_nil, Nat.reduceAdd, Nat.reduceLT, Nat.reduceLeDiff, List.take_succ_cons, List.take_zero, List.drop_succ_cons, List.drop_zero, vvar_3, vzero_3, vknd_3, vsn_3, vvar_4, vzero_4, vknd_4, vsn_4, vifc_20, vsl_27, vkn_27, vvar_27, vzero_27, vsl_46, vkn_46, vvar_46, vzero_46])
        )
      · refine ⟨(i + 1, (ls.take (i + 1)).flatten), ⟨by simp only; omega, .inr ⟨by simp only; omega, rfl⟩⟩, by simp only; omega, ?_⟩
        rw [hzl.2, ← flat_succ ls (by omega)]
        have e : (ls.take i).flatten.length + (ls.getD i []).length = (ls.take (i + 1)).flatten.length := by rw [flat_succ ls (by omega), List.length_append]
        rw [e]
        exact (Weak.sel [1] hB (by decide) (by (repeat' (first | exact trivial | exact RenB.plRow rfl | exact RenB.dead _ | exact RenB.map _ _ | exact RenB.iter rfl | refine And.intro ?_ ?_ | (refine RenB.plBox ?_; (repeat' (first | exact Pl.v _ | exact Pl.junk | exact Pl.rd rfl _ | exact pl_nil | refine pl_cons ?_ ?_ | refine Pl.agg ?_ | refine Pl.tup ?_ | refine Pl.rp ?_ | refine Pl.fn ?_)); (first | done | fail)) | refine RenB.of ?_ | exact RenV.ptr rfl | exact RenV.sl rfl | exact RenV.mp rfl | exact RenV.it rfl | (refine RenV.pl ?_; (repeat' (first | exact Pl.v _ | exact Pl.junk | exact Pl.rd rfl _ | exact pl_nil | refine pl_cons ?_ ?_ | refine Pl.agg ?_ | refine Pl.tup ?_ | refine Pl.rp ?_ | refine Pl.fn ?_)); (first | done | fail)) | refine RenV.aggL ?_ | refine RenV.fnL ?_ | exact Nat.lt_of_sub_pos (by decide) | (simp; (first | done | fail)))); (first | done | fail)) (by (repeat' (first | exact trivial | exact RenV.ptr rfl | exact RenV.sl rfl | exact RenV.mp rfl | exact RenV.it rfl | exact RenV.low (.v _) | exact RenV.low (IdsLt.ptr (by assumption)) | (refine RenV.pl ?_; (repeat' (first | exact Pl.v _ | exact Pl.junk | exact Pl.rd rfl _ | exact pl_nil | refine pl_cons ?_ ?_ | refine Pl.agg ?_ | refine Pl.tup ?_ | refine Pl.rp ?_ | refine Pl.fn ?_)); (first | done | fail)) | refine RenV.fnL ?_ | refine RenV.aggL ?_ | refine And.intro ?_ ?_)); (first | done | fail)))
      · obtain rfl : i = ls.length := by omega
        have hzz : zs = ls.flatten := by
          rcases hz with ⟨h0, _⟩ | ⟨_, rfl⟩
          · exact absurd hp (by rw [List.length_eq_zero_iff.1 h0]; simp)
          · rw [List.take_length]
        subst hzz
        rw [List.take_length]
        exact ⟨_, _, FinOk.keep [0] (L := [.row false (.int .i64) ls.flatten]) hB (by decide) ⟨RenB.plRow rfl, by simp, trivial⟩ (RenV.sl (j := 0) rfl), rfl, rfl⟩

theorem get_ent (zs : List Int) (i : Nat) (x : Int) (hi : i ≤ zs.length) : (getK (.int .i64) x (entTo zs i)).getD (.int .i64 0) = .int .i64 (cntTo zs i x) := by
  unfold getK entTo
  by_cases h : x ∈ ksTo zs i
  · rw [look_in _ x _ 0 h]; rfl
  · rw [look_out _ x _ 0 h]
    have h1 : ¬ 0 < cntTo zs i x := fun hc => h ((ksTo_mem hi x).2 hc)
    have h2 := (cntTo_bnd zs i x).1
    show Value.int .i64 0 = _
    congr 1; omega
theorem put_ent {zs : List Int} {i : Nat} (h : i < zs.length) : putK (.int .i64) (zs.getD i 0) (.int .i64 (cntTo zs i (zs.getD i 0) + 1)) (entTo zs i) = entTo zs (i + 1) := by
  by_cases hm : zs.getD i 0 ∈ ksTo zs i
  · have := look_in (fun k => .int .i64 (cntTo zs i k)) (zs.getD i 0) (ksTo zs i) 0 hm
    rw [put_some (.int .i64) (zs.getD i 0) _ (entTo zs i) 0 ((ksTo zs i).idxOf (zs.getD i 0)) _ this]
    exact ent_in h hm
  · have := look_out (fun k => .int .i64 (cntTo zs i k)) (zs.getD i 0) (ksTo zs i) 0 hm
    rw [put_none (.int .i64) (zs.getD i 0) _ (entTo zs i) 0 this]
    have hc : cntTo zs i (zs.getD i 0) = 0 := by
      have h1 : ¬ 0 < cntTo zs i (zs.getD i 0) := fun hc => hm ((ksTo_mem (by omega) _).2 hc)
      have h2 := (cntTo_bnd zs i (zs.getD i 0)).1
      omega
    rw [hc]
    exact ent_out h hm
theorem ent_at {zs : List Int} {i q : Nat} {e : Int × Value} (h : (entTo zs i)[q]? = some e) : ∃ k, k ∈ ksTo zs i ∧ (ksTo zs i)[q]? = some k ∧ e = (k, .int .i64 (cntTo zs i k)) := by
  unfold entTo at h
  rw [List.getElem?_map, Option.map_eq_some_iff] at h
  obtain ⟨k, h1, h2⟩ := h
  exact ⟨k, List.mem_of_getElem? h1, h1, h2.symm⟩
theorem entTo_len (zs : List Int) (i : Nat) : (entTo zs i).length = (ksTo zs i).length := by simp [entTo]
theorem ksTo_in {zs : List Int} : ∀ {i : Nat}, i ≤ zs.length → ∀ k ∈ ksTo zs i, ∃ j, j < i ∧ zs.getD j 0 = k
  | 0, _, k, h => by simp [ksTo] at h
  | i + 1, hi, k, h => by
    unfold ksTo at h
    split at h
    · obtain ⟨j, h1, h2⟩ := ksTo_in (zs := zs) (i := i) (by omega) k h
      exact ⟨j, by omega, h2⟩
    · rcases List.mem_append.1 h with h | h
      · obtain ⟨j, h1, h2⟩ := ksTo_in (zs := zs) (i := i) (by omega) k h
        exact ⟨j, by omega, h2⟩
      · exact ⟨i, by omega, (List.mem_singleton.1 h).symm⟩
def unseen (n : Nat) (seen : List Nat) : Nat := ((List.range n).filter fun j => !seen.contains j).length
theorem unseen_lt {n q : Nat} {seen : List Nat} (hq : q < n) (hns : ¬ q ∈ seen) : unseen n (seen ++ [q]) < unseen n seen := by
  unfold unseen
  refine filter_lt (fun j => !seen.contains j) (fun j => !(seen ++ [q]).contains j) (fun x hx => ?_) q ?_ ?_ _ (List.mem_range.2 hq)
  · simp at hx ⊢; exact hx.1
  · simpa using hns
  · simp
theorem ChOk_zs {c : Ch} (h1 : 1 ≤ c.1.length) (h2 : c.1.length ≤ 24) (h3 : c.2.length = c.1.length) (hz : ∀ j, j < (c.1 ++ c.2).length → 0 ≤ (c.1 ++ c.2).getD j 0 ∧ (c.1 ++ c.2).getD j 0 ≤ 12) :
    ChOk c ↔ ∀ k : Int, 1 ≤ k → k ≤ 12 → cntTo (c.1 ++ c.2) (c.1 ++ c.2).length k ≠ 1 := by
  unfold ChOk
  constructor
  · intro ⟨_, _, h⟩ k k1 k2
    have := h k k1 k2
    rw [cntTo_all]; omega
  · intro h
    refine ⟨⟨h1, h2, h3⟩, fun x hx => ?_, fun k k1 k2 => ?_⟩
    · obtain ⟨j, hj, rfl⟩ := List.mem_iff_getElem.1 hx
      have := hz j hj
      simpa only [List.getD, List.getElem?_eq_getElem hj, Option.getD_some] using this
    · have := h k k1 k2
      rw [cntTo_all] at this; omega
theorem is17_ac (c : Ch) (hx : c.1.length ≤ 1000000000) (hy : c.2.length ≤ 1000000000) (H : List ABox) : AC Tryd.prog 85 [.agg [.rd (.int .i64) (c).1, .rd (.int .i64) (c).2]] H (fun r H' => r = .v (.bool (decide (ChOk c))) ∧ H' = H) := by
  by_cases hsz : (1 ≤ c.1.length ∧ c.1.length ≤ 24) ∧ c.2.length = c.1.length
  · obtain ⟨⟨s1, s2⟩, s3⟩ := hsz
    have hfl : [c.1, c.2].flatten = c.1 ++ c.2 := by simp
    have hzl : (c.1 ++ c.2).length = c.1.length + c.2.length := List.length_append
    have c52 : ∀ H, AC Tryd.prog 103 [.rd (.sli .i64) ([c.1, c.2])] H (fun r H' => r = .sl 1 (H.length + 0) 0 (c.1 ++ c.2).length ∧ H' = H ++ [.row false (.int .i64) (c.1 ++ c.2)]) := fun H => by
      have hb : ∀ i, ([c.1, c.2].take i).flatten.length ≤ 1000000 := fun i => by
        rcases i with _ | _ | i
        · simp
        · simp; omega
        · simp; omega
      have hb2 : ∀ i, ([c.1, c.2].getD i []).length ≤ 1000000 := fun i => by
        rcases i with _ | _ | i
        · simp; omega
        · simp; omega
        · simp
      have := conc52_ac [c.1, c.2] (by simp) (by rw [hfl]; omega) hb hb2 H
      rwa [hfl] at this
    generalize hzs : c.1 ++ c.2 = zs at c52 hzl
    have hiff : (∀ j, j < zs.length → 0 ≤ zs.getD j 0 ∧ zs.getD j 0 ≤ 12) → (ChOk c ↔ ∀ k : Int, 1 ≤ k → k ≤ 12 → cntTo zs zs.length k ≠ 1) := by
      rw [← hzs]; exact ChOk_zs s1 s2 s3
    have hall : ChOk c → ∀ j, j < zs.length → 0 ≤ zs.getD j 0 ∧ zs.getD j 0 ≤ 12 := fun h j hj => by
      have := h.2.1 (zs.getD j 0) (by
        rw [hzs]; simp only [List.getD, List.getElem?_eq_getElem hj, Option.getD_some]; exact List.getElem_mem hj)
      exact this
    refine AC.enter envOk Tryd.func85 rfl (by decide) Tryd.ntmps85 Tryd.results85 (by simp) fun hB => ?_
    repeat' (first
      | (with_reducible refine AW.sreg envOk fun K hK => ?_)
      | (with_reducible refine AW.region envOk fun K hK => ?_)
      | (with_reducible refine vcL_nil ?_)
      | (with_reducible refine vcL_cons fun K' hK' => ?_; simp only [isC, Bool.false_or, Bool.or_true, vAppend, elems, ↓reduceDIte, List.take_length, Nat.le_refl, List.drop_zero, vGuard, undef, Bool.not_eq_eq_eq_not, dstOk, vcOp, vcF, isPure, putS, vcCall, St.ev, St.put, lk, AVal.ofVal, initS, Nat.reduceLT, true_and, and_true, vBin, vUn, vPick, vConv, vPart, vLoad, vStore, vIdxA, vIdx, vFldA, vExt, vLen, vMin, vNil, vAlloc, vBox, vBuild, vBuildSl, vMake, vSlice, bnd, partsA, fillA, decAll, AVal.flat, AVal.cell, cellsOk, setRange, ETy.enc, ETy.dec, ETy.sz, ETy.d, cond, Nat.reduceBEq, Nat.reduceAdd, Int.toNat_natCast, List.length_set, List.length_append, List.length_replicate, List.length_take, Nat.reduceSub, Nat.reduceEqDiff, get_loc, setBox_loc, next_eq, List.length_cons, List.length_nil, List.map_cons, List.map_nil, List.append_nil, List.nil_append, List.cons_append, List.set_cons_zero, List.set_cons_succ, getD_zero, getD_succ, List.getElem?_cons_succ, List.getElem?_cons_zero, List.take_succ_cons, List.take_zero, List.drop_succ_cons, List.drop_zero, List.all_cons, List.all_nil, Bool.and_true, Bool.true_and, Option.bind_some, Option.map_some, Option.map_none, decide_eq_true_eq, decide_eq_false_iff_not, ne_eq, Bool.not_eq_true, Bool.not_eq_false, Decidable.not_not, not_true_eq_false, not_false_eq_true, forall_const, false_implies, Bool.true_eq_false, Bool.false_eq_true, reduceCtorEq, decide_true, decide_false, Bool.not_true, Bool.not_false, if_true, if_false, Nat.zero_add, Nat.lt_irrefl, Value.oneCell', gt_iff_lt, Nat.reduceLeDiff, Nat.lt_add_one, List.length_append, vMakeMap, vLookup, vMapUpd, vMapEnt, vEntSt, vRange, vEntry, KK.of, KK.av, lkRes, entry_last, vvar_2, vzero_2, vknd_2, vsn_2, vvar_3, vzero_3, vknd_3, vsn_3, vvar_4, vzero_4, vknd_4, vsn_4, vsl_27, vkn_27, vvar_27, vzero_27, vsl_46, vkn_46, vvar_46, vzero_46, vvar_62, vzero_62, vbld_62, vvar_116, vzero_116, vmp_116, vfld_62_0, vfld_62_1]; try simp (disch := omega) only [wrap64])
      | (with_reducible refine hK' _ ?_; clear hK' K')
      | (with_reducible refine hK _ ?_; clear hK K)
      | (with_reducible refine vcC_pure (in51_ac _ _ _ _) ?_)
      | (with_reducible refine vCall_pure (in51_ac _ _ _ _) ?_)
      | ((with_reducible show vCall _ (AVal.fn 103 _) _ _ _); refine vCall_newE (AC.lentN (by simp only [killAll_length, List.length_append, List.length_cons, List.length_nil, Nat.reduceAdd]; rfl) (by (repeat' (first | exact trivial | exact LentV.rowL rfl rfl rfl | exact LentV.rowL rfl rfl (by assumption) | refine LentV.boxL rfl ?_ | exact LentV.nil _ | exact LentV.same _ | refine LentV.aggL ?_ | refine And.intro ?_ ?_)); (first | done | fail)) (by (repeat' (first | exact NoRd.v _ | exact NoRd.sl | exact NoRd.mp | exact NoRd.tup nord_nil | refine NoRd.tup ?_ | refine NoRd.agg ?_ | exact nord_nil | refine nord_cons ?_ ?_)); (first | done | fail)) (by (repeat' (first | exact nordW_nil | refine nordW_cons ?_ ?_ | exact And.intro rfl rfl | exact trivial)); (first | done | fail)) (c52 _)) rfl ?_)
      | (with_reducible refine And.intro (And.intro rfl rfl) ?_)
      | (with_reducible refine And.intro (by omega) ?_)
      | (with_reducible refine And.intro (fun hg => ?_) (fun hg => ?_) <;> first | simp only [eq_false hg, decide_true, decide_false, and_true, true_and, and_false, false_and, not_true_eq_false, not_false_eq_true] | simp only [eq_true hg, decide_true, decide_false, and_true, true_and, and_false, false_and, not_true_eq_false, not_false_eq_true] | simp only [hg, decide_true, decide_false, and_true, true_and, and_false, false_and, not_true_eq_false, not_false_eq_true])
      | (with_reducible refine And.intro rfl (And.intro rfl rfl))
      | (with_reducible refine thenQ_n ?_)
      | (with_reducible refine thenQ_exit ?_)
      | (with_reducible refine thenQ_ret ?_)
      | (with_reducible refine midQ_ret ?_)
      | (with_reducible refine midQ_exit ?_)
      | (with_reducible refine blockQ_same ?_)
      | (with_reducible refine blockQ_ret ?_)
      | (with_reducible refine blockQ_n ?_)
      | (with_reducible refine AW.exit ?_)
      | (with_reducible refine AW.block ?_)
      | (with_reducible refine AW.cond_t rfl ?_)
      | (with_reducible refine AW.cond_f rfl ?_)
      | (with_reducible refine AW.cond_dec rfl (fun hc => ?_) (fun hc => ?_))
      | (with_reducible refine AW.cond rfl (fun hc => ?_) (fun hc => ?_) <;> try simp only [Bool.not_eq_eq_eq_not, Bool.not_true, Bool.not_false, decide_eq_true_eq, decide_eq_false_iff_not] at hc)
      | (with_reducible refine AW.seq ?_)
      | (with_reducible refine AW.skip ?_)
      | (with_reducible refine AW.ret ?_)
      | (with_reducible refine And.intro ?_ ?_)
      | (with_reducible intro hg; first | simp only [eq_false hg, decide_true, decide_false, and_true, true_and, and_false, false_and, not_true_eq_false, not_false_eq_true] | simp only [eq_true hg, decide_true, decide_false, and_true, true_and, and_false, false_and, not_true_eq_false, not_false_eq_true])
      | (with_reducible refine retQ_drop ?_; simp only [vRes, packRes, vLoad, vPart, lk, cond, Nat.reduceBEq, get_loc, getD_zero, getD_succ, true_and, List.length_cons, List.length_nil, Nat.reduceAdd, Nat.reduceLT, Nat.reduceLeDiff, List.take_succ_cons, List.take_zero, List.drop_succ_cons, List.drop_zero, vvar_2, vzero_2, vknd_2, vsn_2, vvar_3, vzero_3, vknd_3, vsn_3, vvar_4, vzero_4, vknd_4, vsn_4, vsl_27, vkn_27, vvar_27, vzero_27, vsl_46, vkn_46, vvar_46, vzero_46, vvar_62, vzero_62, vbld_62, vvar_116, vzero_116, vmp_116, vfld_62_0, vfld_62_1])
      )
    all_goals try (exfalso; omega)
    refine AW.loop (fun i : Nat => (⟨55, [(3, .mp (H.length + 0)), (28, .sl 1 (H.length + 1) 0 (zs.length)), (29, .v (.int .i64 ((zs.length : Int)))), (30, .v (.int .i64 ((i : Int))))], H, [.map (.int .i64) (entTo zs i), .row false (.int .i64) (zs)]⟩ : St)) (fun i => i ≤ zs.length ∧ ∀ j, j < i → 0 ≤ zs.getD j 0 ∧ zs.getD j 0 ≤ 12) (fun i => zs.length - i) 0 ⟨Nat.zero_le _, fun j h => absurd h (by omega)⟩ ?_ ?_
    · exact (Weak.sel [1, 3] hB (by decide) (by (repeat' (first | exact trivial | exact RenB.plRow rfl | exact RenB.dead _ | exact RenB.map _ _ | exact RenB.iter rfl | refine And.intro ?_ ?_ | (refine RenB.plBox ?_; (repeat' (first | exact Pl.v _ | exact Pl.junk | exact Pl.rd rfl _ | exact pl_nil | refine pl_cons ?_ ?_ | refine Pl.agg ?_ | refine Pl.tup ?_ | refine Pl.rp ?_ | refine Pl.fn ?_)); (first | done | fail)) | refine RenB.of ?_ | exact RenV.ptr rfl | exact RenV.sl rfl | exact RenV.mp rfl | exact RenV.it rfl | (refine RenV.pl ?_; (repeat' (first | exact Pl.v _ | exact Pl.junk | exact Pl.rd rfl _ | exact pl_nil | refine pl_cons ?_ ?_ | refine Pl.agg ?_ | refine Pl.tup ?_ | refine Pl.rp ?_ | refine Pl.fn ?_)); (first | done | fail)) | refine RenV.aggL ?_ | refine RenV.fnL ?_ | exact Nat.lt_of_sub_pos (by decide) | (simp; (first | done | fail)))); (first | done | fail)) (by (repeat' (first | exact trivial | exact RenV.ptr rfl | exact RenV.sl rfl | exact RenV.mp rfl | exact RenV.it rfl | exact RenV.low (.v _) | exact RenV.low (IdsLt.ptr (by assumption)) | (refine RenV.pl ?_; (repeat' (first | exact Pl.v _ | exact Pl.junk | exact Pl.rd rfl _ | exact pl_nil | refine pl_cons ?_ ?_ | refine Pl.agg ?_ | refine Pl.tup ?_ | refine Pl.rp ?_ | refine Pl.fn ?_)); (first | done | fail)) | refine RenV.fnL ?_ | refine RenV.aggL ?_ | refine And.intro ?_ ?_)); (first | done | fail)))
    intro i ⟨hi, hI⟩
    have hb1 := cntTo_bnd zs i (zs.getD i 0)
    have hg := get_ent zs i (zs.getD i 0) hi
    repeat' (first
      | (with_reducible refine AW.sreg envOk fun K hK => ?_)
      | (with_reducible refine AW.region envOk fun K hK => ?_)
      | (with_reducible refine vcL_nil ?_)
      | (with_reducible refine vcL_cons fun K' hK' => ?_; simp only [isC, Bool.false_or, Bool.or_true, vAppend, elems, ↓reduceDIte, List.take_length, Nat.le_refl, List.drop_zero, vGuard, undef, Bool.not_eq_eq_eq_not, dstOk, vcOp, vcF, isPure, putS, vcCall, St.ev, St.put, lk, AVal.ofVal, initS, Nat.reduceLT, true_and, and_true, vBin, vUn, vPick, vConv, vPart, vLoad, vStore, vIdxA, vIdx, vFldA, vExt, vLen, vMin, vNil, vAlloc, vBox, vBuild, vBuildSl, vMake, vSlice, bnd, partsA, fillA, decAll, AVal.flat, AVal.cell, cellsOk, setRange, ETy.enc, ETy.dec, ETy.sz, ETy.d, cond, Nat.reduceBEq, Nat.reduceAdd, Int.toNat_natCast, List.length_set, List.length_append, List.length_replicate, List.length_take, Nat.reduceSub, Nat.reduceEqDiff, get_loc, setBox_loc, next_eq, List.length_cons, List.length_nil, List.map_cons, List.map_nil, List.append_nil, List.nil_append, List.cons_append, List.set_cons_zero, List.set_cons_succ, getD_zero, getD_succ, List.getElem?_cons_succ, List.getElem?_cons_zero, List.take_succ_cons, List.take_zero, List.drop_succ_cons, List.drop_zero, List.all_cons, List.all_nil, Bool.and_true, Bool.true_and, Option.bind_some, Option.map_some, Option.map_none, decide_eq_true_eq, decide_eq_false_iff_not, ne_eq, Bool.not_eq_true, Bool.not_eq_false, Decidable.not_not, not_true_eq_false, not_false_eq_true, forall_const, false_implies, Bool.true_eq_false, Bool.false_eq_true, reduceCtorEq, decide_true, decide_false, Bool.not_true, Bool.not_false, if_true, if_false, Nat.zero_add, Nat.lt_irrefl, Value.oneCell', gt_iff_lt, Nat.reduceLeDiff, Nat.lt_add_one, List.length_append, vMakeMap, vLookup, vMapUpd, vMapEnt, vEntSt, vRange, vEntry, KK.of, KK.av, lkRes, entry_last, vvar_2, vzero_2, vknd_2, vsn_2, vvar_3, vzero_3, vknd_3, vsn_3, vvar_4, vzero_4, vknd_4, vsn_4, vsl_27, vkn_27, vvar_27, vzero_27, vsl_46, vkn_46, vvar_46, vzero_46, vvar_62, vzero_62, vbld_62, vvar_116, vzero_116, vmp_116, vfld_62_0, vfld_62_1, hg]; try simp (disch := omega) only [wrap64])
      | (with_reducible refine hK' _ ?_; clear hK' K')
      | (with_reducible refine hK _ ?_; clear hK K)
      | (with_reducible refine vcC_pure (in51_ac _ _ _ _) ?_)
      | (with_reducible refine vCall_pure (in51_ac _ _ _ _) ?_)
      | (with_reducible refine And.intro (And.intro rfl rfl) ?_)
      | (with_reducible refine And.intro (by omega) ?_)
      | (with_reducible refine And.intro (fun hg => ?_) (fun hg => ?_) <;> first | simp only [eq_false hg, decide_true, decide_false, and_true, true_and, and_false, false_and, not_true_eq_false, not_false_eq_true] | simp only [eq_true hg, decide_true, decide_false, and_true, true_and, and_false, false_and, not_true_eq_false, not_false_eq_true] | simp only [hg, decide_true, decide_false, and_true, true_and, and_false, false_and, not_true_eq_false, not_false_eq_true])
      | (with_reducible refine And.intro rfl (And.intro rfl rfl))
      | (with_reducible refine thenQ_n ?_)
      | (with_reducible refine thenQ_exit ?_)
      | (with_reducible refine thenQ_ret ?_)
      | (with_reducible refine midQ_ret ?_)
      | (with_reducible refine midQ_exit ?_)
      | (with_reducible refine blockQ_same ?_)
      | (with_reducible refine blockQ_ret ?_)
      | (with_reducible refine blockQ_n ?_)
      | (with_reducible refine AW.exit ?_)
      | (with_reducible refine AW.block ?_)
      | (with_reducible refine AW.cond_t rfl ?_)
      | (with_reducible refine AW.cond_f rfl ?_)
      | (with_reducible refine AW.cond_dec rfl (fun hc => ?_) (fun hc => ?_))
      | (with_reducible refine AW.cond rfl (fun hc => ?_) (fun hc => ?_) <;> try simp only [Bool.not_eq_eq_eq_not, Bool.not_true, Bool.not_false, decide_eq_true_eq, decide_eq_false_iff_not] at hc)
      | (with_reducible refine AW.seq ?_)
      | (with_reducible refine AW.skip ?_)
      | (with_reducible refine AW.ret ?_)
      | (with_reducible refine And.intro ?_ ?_)
      | (with_reducible intro hg; first | simp only [eq_false hg, decide_true, decide_false, and_true, true_and, and_false, false_and, not_true_eq_false, not_false_eq_true] | simp only [eq_true hg, decide_true, decide_false, and_true, true_and, and_false, false_and, not_true_eq_false, not_false_eq_true])
      | (with_reducible refine retQ_drop ?_; simp only [vRes, packRes, vLoad, vPart, lk, cond, Nat.reduceBEq, get_loc, getD_zero, getD_succ, true_and, List.length_cons, List.length_nil, Nat.reduceAdd, Nat.reduceLT, Nat.reduceLeDiff, List.take_succ_cons, List.take_zero, List.drop_succ_cons, List.drop_zero, vvar_2, vzero_2, vknd_2, vsn_2, vvar_3, vzero_3, vknd_3, vsn_3, vvar_4, vzero_4, vknd_4, vsn_4, vsl_27, vkn_27, vvar_27, vzero_27, vsl_46, vkn_46, vvar_46, vzero_46, vvar_62, vzero_62, vbld_62, vvar_116, vzero_116, vmp_116, vfld_62_0, vfld_62_1])
      )
    · refine ⟨_, _, FinOk.drop hB (Pl.ids (by (repeat' (first | exact Pl.v _ | exact Pl.junk | exact Pl.rd rfl _ | exact pl_nil | refine pl_cons ?_ ?_ | refine Pl.agg ?_ | refine Pl.tup ?_ | refine Pl.rp ?_ | refine Pl.fn ?_)); (first | done | fail))), ?_, rfl⟩
      refine v_bool ?_
      simp only [Bool.false_eq_true, false_iff]
      intro h
      exact absurd (hall h i (by omega)) (by assumption)
    · refine ⟨i + 1, ⟨by omega, fun j hj => ?_⟩, by omega, ?_⟩
      · by_cases e : j = i
        · subst e; assumption
        · exact hI j (by omega)
      rw [put_ent (by omega)]
      exact (Weak.slots (by repeat' first | exact trivial | exact ⟨rfl, trivial⟩ | refine ⟨rfl, ?_⟩))
    obtain rfl : i = zs.length := by omega
    have hiff' := hiff hI
    refine AW.loop (fun seen : List Nat => (⟨55, [(43, .it (H.length + 1))], H, [.map (.int .i64) (entTo zs zs.length), .iter (H.length + 0) (entTo zs zs.length).length seen]⟩ : St)) (fun seen => ∀ q ∈ seen, ∀ k, (ksTo zs zs.length)[q]? = some k → ¬ (0 < k ∧ cntTo zs zs.length k < 2)) (fun seen => unseen (entTo zs zs.length).length seen) [] (fun q h => by simp at h) ?_ ?_
    · exact (Weak.sel [0, 2] hB (by decide) (by (repeat' (first | exact trivial | exact RenB.plRow rfl | exact RenB.dead _ | exact RenB.map _ _ | exact RenB.iter rfl | refine And.intro ?_ ?_ | (refine RenB.plBox ?_; (repeat' (first | exact Pl.v _ | exact Pl.junk | exact Pl.rd rfl _ | exact pl_nil | refine pl_cons ?_ ?_ | refine Pl.agg ?_ | refine Pl.tup ?_ | refine Pl.rp ?_ | refine Pl.fn ?_)); (first | done | fail)) | refine RenB.of ?_ | exact RenV.ptr rfl | exact RenV.sl rfl | exact RenV.mp rfl | exact RenV.it rfl | (refine RenV.pl ?_; (repeat' (first | exact Pl.v _ | exact Pl.junk | exact Pl.rd rfl _ | exact pl_nil | refine pl_cons ?_ ?_ | refine Pl.agg ?_ | refine Pl.tup ?_ | refine Pl.rp ?_ | refine Pl.fn ?_)); (first | done | fail)) | refine RenV.aggL ?_ | refine RenV.fnL ?_ | exact Nat.lt_of_sub_pos (by decide) | (simp; (first | done | fail)))); (first | done | fail)) (by (repeat' (first | exact trivial | exact RenV.ptr rfl | exact RenV.sl rfl | exact RenV.mp rfl | exact RenV.it rfl | exact RenV.low (.v _) | exact RenV.low (IdsLt.ptr (by assumption)) | (refine RenV.pl ?_; (repeat' (first | exact Pl.v _ | exact Pl.junk | exact Pl.rd rfl _ | exact pl_nil | refine pl_cons ?_ ?_ | refine Pl.agg ?_ | refine Pl.tup ?_ | refine Pl.rp ?_ | refine Pl.fn ?_)); (first | done | fail)) | refine RenV.fnL ?_ | refine RenV.aggL ?_ | refine And.intro ?_ ?_)); (first | done | fail)))
    intro seen hseen
    repeat' (first
      | (with_reducible refine AW.sreg envOk fun K hK => ?_)
      | (with_reducible refine AW.region envOk fun K hK => ?_)
      | (with_reducible refine vcL_nil ?_)
      | (with_reducible refine vcL_cons fun K' hK' => ?_; simp only [isC, Bool.false_or, Bool.or_true, vAppend, elems, ↓reduceDIte, List.take_length, Nat.le_refl, List.drop_zero, vGuard, undef, Bool.not_eq_eq_eq_not, dstOk, vcOp, vcF, isPure, putS, vcCall, St.ev, St.put, lk, AVal.ofVal, initS, Nat.reduceLT, true_and, and_true, vBin, vUn, vPick, vConv, vPart, vLoad, vStore, vIdxA, vIdx, vFldA, vExt, vLen, vMin, vNil, vAlloc, vBox, vBuild, vBuildSl, vMake, vSlice, bnd, partsA, fillA, decAll, AVal.flat, AVal.cell, cellsOk, setRange, ETy.enc, ETy.dec, ETy.sz, ETy.d, cond, Nat.reduceBEq, Nat.reduceAdd, Int.toNat_natCast, List.length_set, List.length_append, List.length_replicate, List.length_take, Nat.reduceSub, Nat.reduceEqDiff, get_loc, setBox_loc, next_eq, List.length_cons, List.length_nil, List.map_cons, List.map_nil, List.append_nil, List.nil_append, List.cons_append, List.set_cons_zero, List.set_cons_succ, getD_zero, getD_succ, List.getElem?_cons_succ, List.getElem?_cons_zero, List.take_succ_cons, List.take_zero, List.drop_succ_cons, List.drop_zero, List.all_cons, List.all_nil, Bool.and_true, Bool.true_and, Option.bind_some, Option.map_some, Option.map_none, decide_eq_true_eq, decide_eq_false_iff_not, ne_eq, Bool.not_eq_true, Bool.not_eq_false, Decidable.not_not, not_true_eq_false, not_false_eq_true, forall_const, false_implies, Bool.true_eq_false, Bool.false_eq_true, reduceCtorEq, decide_true, decide_false, Bool.not_true, Bool.not_false, if_true, if_false, Nat.zero_add, Nat.lt_irrefl, Value.oneCell', gt_iff_lt, Nat.reduceLeDiff, Nat.lt_add_one, List.length_append, vMakeMap, vLookup, vMapUpd, vMapEnt, vEntSt, vRange, vEntry, KK.of, KK.av, lkRes, entry_last, vvar_2, vzero_2, vknd_2, vsn_2, vvar_3, vzero_3, vknd_3, vsn_3, vvar_4, vzero_4, vknd_4, vsn_4, vsl_27, vkn_27, vvar_27, vzero_27, vsl_46, vkn_46, vvar_46, vzero_46, vvar_62, vzero_62, vbld_62, vvar_116, vzero_116, vmp_116, vfld_62_0, vfld_62_1]; try simp (disch := omega) only [wrap64])
      | (with_reducible refine hK' _ ?_; clear hK' K')
      | (with_reducible refine hK _ ?_; clear hK K)
      | (with_reducible refine And.intro (And.intro rfl rfl) ?_)
      | (with_reducible refine And.intro (by omega) ?_)
      | (with_reducible refine And.intro (fun hg => ?_) (fun hg => ?_) <;> first | simp only [eq_false hg, decide_true, decide_false, and_true, true_and, and_false, false_and, not_true_eq_false, not_false_eq_true] | simp only [eq_true hg, decide_true, decide_false, and_true, true_and, and_false, false_and, not_true_eq_false, not_false_eq_true] | simp only [hg, decide_true, decide_false, and_true, true_and, and_false, false_and, not_true_eq_false, not_false_eq_true])
      | (with_reducible refine And.intro rfl (And.intro rfl rfl))
      | (with_reducible refine thenQ_n ?_)
      | (with_reducible refine thenQ_exit ?_)
      | (with_reducible refine thenQ_ret ?_)
      | (with_reducible refine midQ_ret ?_)
      | (with_reducible refine midQ_exit ?_)
      | (with_reducible refine blockQ_same ?_)
      | (with_reducible refine blockQ_ret ?_)
      | (with_reducible refine blockQ_n ?_)
      | (with_reducible refine AW.exit ?_)
      | (with_reducible refine AW.block ?_)
      | (with_reducible refine AW.cond_t rfl ?_)
      | (with_reducible refine AW.cond_f rfl ?_)
      | (with_reducible refine AW.cond_dec rfl (fun hc => ?_) (fun hc => ?_))
      | (with_reducible refine AW.cond rfl (fun hc => ?_) (fun hc => ?_) <;> try simp only [Bool.not_eq_eq_eq_not, Bool.not_true, Bool.not_false, decide_eq_true_eq, decide_eq_false_iff_not] at hc)
      | (with_reducible refine AW.seq ?_)
      | (with_reducible refine AW.skip ?_)
      | (with_reducible refine AW.ret ?_)
      | (with_reducible refine And.intro ?_ ?_)
      | (with_reducible intro hg; first | simp only [eq_false hg, decide_true, decide_false, and_true, true_and, and_false, false_and, not_true_eq_false, not_false_eq_true] | simp only [eq_true hg, decide_true, decide_false, and_true, true_and, and_false, false_and, not_true_eq_false, not_false_eq_true])
      | (with_reducible refine retQ_drop ?_; simp only [vRes, packRes, vLoad, vPart, lk, cond, Nat.reduceBEq, get_loc, getD_zero, getD_succ, true_and, List.length_cons, List.length_nil, Nat.reduceAdd, Nat.reduceLT, Nat.reduceLeDiff, List.take_succ_cons, List.take_zero, List.drop_succ_cons, List.drop_zero, vvar_2, vzero_2, vknd_2, vsn_2, vvar_3, vzero_3, vknd_3, vsn_3, vvar_4, vzero_4, vknd_4, vsn_4, vsl_27, vkn_27, vvar_27, vzero_27, vsl_46, vkn_46, vvar_46, vzero_46, vvar_62, vzero_62, vbld_62, vvar_116, vzero_116, vmp_116, vfld_62_0, vfld_62_1])
      )
    refine vNext_step rfl rfl rfl (fun q e hq hns => ?_) (fun hall' => ?_)
    · obtain ⟨k, hk1, hk2, rfl⟩ := ent_at hq
      have hlt : q < (entTo zs zs.length).length := (List.getElem?_eq_some_iff.1 hq).1
      repeat' (first
        | (with_reducible refine AW.sreg envOk fun K hK => ?_)
        | (with_reducible refine AW.region envOk fun K hK => ?_)
        | (with_reducible refine vcL_nil ?_)
        | (with_reducible refine vcL_cons fun K' hK' => ?_; simp only [isC, Bool.false_or, Bool.or_true, vAppend, elems, ↓reduceDIte, List.take_length, Nat.le_refl, List.drop_zero, vGuard, undef, Bool.not_eq_eq_eq_not, dstOk, vcOp, vcF, isPure, putS, vcCall, St.ev, St.put, lk, AVal.ofVal, initS, Nat.reduceLT, true_and, and_true, vBin, vUn, vPick, vConv, vPart, vLoad, vStore, vIdxA, vIdx, vFldA, vExt, vLen, vMin, vNil, vAlloc, vBox, vBuild, vBuildSl, vMake, vSlice, bnd, partsA, fillA, decAll, AVal.flat, AVal.cell, cellsOk, setRange, ETy.enc, ETy.dec, ETy.sz, ETy.d, cond, Nat.reduceBEq, Nat.reduceAdd, Int.toNat_natCast, List.length_set, List.length_append, List.length_replicate, List.length_take, Nat.reduceSub, Nat.reduceEqDiff, get_loc, setBox_loc, next_eq, List.length_cons, List.length_nil, List.map_cons, List.map_nil, List.append_nil, List.nil_append, List.cons_append, List.set_cons_zero, List.set_cons_succ, getD_zero, getD_succ, List.getElem?_cons_succ, List.getElem?_cons_zero, List.take_succ_cons, List.take_zero, List.drop_succ_cons, List.drop_zero, List.all_cons, List.all_nil, Bool.and_true, Bool.true_and, Option.bind_some, Option.map_some, Option.map_none, decide_eq_true_eq, decide_eq_false_iff_not, ne_eq, Bool.not_eq_true, Bool.not_eq_false, Decidable.not_not, not_true_eq_false, not_false_eq_true, forall_const, false_implies, Bool.true_eq_false, Bool.false_eq_true, reduceCtorEq, decide_true, decide_false, Bool.not_true, Bool.not_false, if_true, if_false, Nat.zero_add, Nat.lt_irrefl, Value.oneCell', gt_iff_lt, Nat.reduceLeDiff, Nat.lt_add_one, List.length_append, vMakeMap, vLookup, vMapUpd, vMapEnt, vEntSt, vRange, vEntry, KK.of, KK.av, lkRes, entry_last, vvar_2, vzero_2, vknd_2, vsn_2, vvar_3, vzero_3, vknd_3, vsn_3, vvar_4, vzero_4, vknd_4, vsn_4, vsl_27, vkn_27, vvar_27, vzero_27, vsl_46, vkn_46, vvar_46, vzero_46, vvar_62, vzero_62, vbld_62, vvar_116, vzero_116, vmp_116, vfld_62_0, vfld_62_1, hq]; try simp (disch := omega) only [wrap64])
        | (with_reducible refine hK' _ ?_; clear hK' K')
        | (with_reducible refine hK _ ?_; clear hK K)
        | (with_reducible refine And.intro (And.intro rfl rfl) ?_)
        | (with_reducible refine And.intro (by omega) ?_)
        | (with_reducible refine And.intro (fun hg => ?_) (fun hg => ?_) <;> first | simp only [eq_false hg, decide_true, decide_false, and_true, true_and, and_false, false_and, not_true_eq_false, not_false_eq_true] | simp only [eq_true hg, decide_true, decide_false, and_true, true_and, and_false, false_and, not_true_eq_false, not_false_eq_true] | simp only [hg, decide_true, decide_false, and_true, true_and, and_false, false_and, not_true_eq_false, not_false_eq_true])
        | (with_reducible refine And.intro rfl (And.intro rfl rfl))
        | (with_reducible refine thenQ_n ?_)
        | (with_reducible refine thenQ_exit ?_)
        | (with_reducible refine thenQ_ret ?_)
        | (with_reducible refine midQ_ret ?_)
        | (with_reducible refine midQ_exit ?_)
        | (with_reducible refine blockQ_same ?_)
        | (with_reducible refine blockQ_ret ?_)
        | (with_reducible refine blockQ_n ?_)
        | (with_reducible refine AW.exit ?_)
        | (with_reducible refine AW.block ?_)
        | (with_reducible refine AW.cond_t rfl ?_)
        | (with_reducible refine AW.cond_f rfl ?_)
        | (with_reducible refine AW.cond_dec rfl (fun hc => ?_) (fun hc => ?_))
        | (with_reducible refine AW.cond rfl (fun hc => ?_) (fun hc => ?_) <;> try simp only [Bool.not_eq_eq_eq_not, Bool.not_true, Bool.not_false, decide_eq_true_eq, decide_eq_false_iff_not] at hc)
        | (with_reducible refine AW.seq ?_)
        | (with_reducible refine AW.skip ?_)
        | (with_reducible refine AW.ret ?_)
        | (with_reducible refine And.intro ?_ ?_)
        | (with_reducible intro hg; first | simp only [eq_false hg, decide_true, decide_false, and_true, true_and, and_false, false_and, not_true_eq_false, not_false_eq_true] | simp only [eq_true hg, decide_true, decide_false, and_true, true_and, and_false, false_and, not_true_eq_false, not_false_eq_true])
        | (with_reducible refine retQ_drop ?_; simp only [vRes, packRes, vLoad, vPart, lk, cond, Nat.reduceBEq, get_loc, getD_zero, getD_succ, true_and, List.length_cons, List.length_nil, Nat.reduceAdd, Nat.reduceLT, Nat.reduceLeDiff, List.take_succ_cons, List.take_zero, List.drop_succ_cons, List.drop_zero, vvar_2, vzero_2, vknd_2, vsn_2, vvar_3, vzero_3, vknd_3, vsn_3, vvar_4, vzero_4, vknd_4, vsn_4, vsl_27, vkn_27, vvar_27, vzero_27, vsl_46, vkn_46, vvar_46, vzero_46, vvar_62, vzero_62, vbld_62, vvar_116, vzero_116, vmp_116, vfld_62_0, vfld_62_1])
        )
      · refine ⟨_, _, FinOk.drop hB (Pl.ids (by (repeat' (first | exact Pl.v _ | exact Pl.junk | exact Pl.rd rfl _ | exact pl_nil | refine pl_cons ?_ ?_ | refine Pl.agg ?_ | refine Pl.tup ?_ | refine Pl.rp ?_ | refine Pl.fn ?_)); (first | done | fail))), ?_, rfl⟩
        refine v_bool ?_
        simp only [Bool.false_eq_true, false_iff]
        intro h
        obtain ⟨j, j1, j2⟩ := ksTo_in (Nat.le_refl _) k hk1
        have h3 := hI j j1
        have h4 := (ksTo_mem (Nat.le_refl _) k).1 hk1
        exact hiff'.1 h k (by omega) (by omega) (by omega)
      all_goals
        refine ⟨seen ++ [q], fun q' hq' k' hk' => ?_, unseen_lt hlt hns, (Weak.slots (by repeat' first | exact trivial | exact ⟨rfl, trivial⟩ | refine ⟨rfl, ?_⟩))⟩
        rcases List.mem_append.1 hq' with h | h
        · exact hseen q' h k' hk'
        · have e1 := List.mem_singleton.1 h
          subst e1
          rw [hk2] at hk'
          cases hk'
          omega
    ·
      repeat' (first
        | (with_reducible refine AW.sreg envOk fun K hK => ?_)
        | (with_reducible refine AW.region envOk fun K hK => ?_)
        | (with_reducible refine vcL_nil ?_)
        | (with_reducible refine vcL_cons fun K' hK' => ?_; simp only [isC, Bool.false_or, Bool.or_true, vAppend, elems, ↓reduceDIte, List.take_length, Nat.le_refl, List.drop_zero, vGuard, undef, Bool.not_eq_eq_eq_not, dstOk, vcOp, vcF, isPure, putS, vcCall, St.ev, St.put, lk, AVal.ofVal, initS, Nat.reduceLT, true_and, and_true, vBin, vUn, vPick, vConv, vPart, vLoad, vStore, vIdxA, vIdx, vFldA, vExt, vLen, vMin, vNil, vAlloc, vBox, vBuild, vBuildSl, vMake, vSlice, bnd, partsA, fillA, decAll, AVal.flat, AVal.cell, cellsOk, setRange, ETy.enc, ETy.dec, ETy.sz, ETy.d, cond, Nat.reduceBEq, Nat.reduceAdd, Int.toNat_natCast, List.length_set, List.length_append, List.length_replicate, List.length_take, Nat.reduceSub, Nat.reduceEqDiff, get_loc, setBox_loc, next_eq, List.length_cons, List.length_nil, List.map_cons, List.map_nil, List.append_nil, List.nil_append, List.cons_append, List.set_cons_zero, List.set_cons_succ, getD_zero, getD_succ, List.getElem?_cons_succ, List.getElem?_cons_zero, List.take_succ_cons, List.take_zero, List.drop_succ_cons, List.drop_zero, List.all_cons, List.all_nil, Bool.and_true, Bool.true_and, Option.bind_some, Option.map_some, Option.map_none, decide_eq_true_eq, decide_eq_false_iff_not, ne_eq, Bool.not_eq_true, Bool.not_eq_false, Decidable.not_not, not_true_eq_false, not_false_eq_true, forall_const, false_implies, Bool.true_eq_false, Bool.false_eq_true, reduceCtorEq, decide_true, decide_false, Bool.not_true, Bool.not_false, if_true, if_false, Nat.zero_add, Nat.lt_irrefl, Value.oneCell', gt_iff_lt, Nat.reduceLeDiff, Nat.lt_add_one, List.length_append, vMakeMap, vLookup, vMapUpd, vMapEnt, vEntSt, vRange, vEntry, KK.of, KK.av, lkRes, entry_last, vvar_2, vzero_2, vknd_2, vsn_2, vvar_3, vzero_3, vknd_3, vsn_3, vvar_4, vzero_4, vknd_4, vsn_4, vsl_27, vkn_27, vvar_27, vzero_27, vsl_46, vkn_46, vvar_46, vzero_46, vvar_62, vzero_62, vbld_62, vvar_116, vzero_116, vmp_116, vfld_62_0, vfld_62_1]; try simp (disch := omega) only [wrap64])
        | (with_reducible refine hK' _ ?_; clear hK' K')
        | (with_reducible refine hK _ ?_; clear hK K)
        | (with_reducible refine And.intro (And.intro rfl rfl) ?_)
        | (with_reducible refine And.intro (by omega) ?_)
        | (with_reducible refine And.intro (fun hg => ?_) (fun hg => ?_) <;> first | simp only [eq_false hg, decide_true, decide_false, and_true, true_and, and_false, false_and, not_true_eq_false, not_false_eq_true] | simp only [eq_true hg, decide_true, decide_false, and_true, true_and, and_false, false_and, not_true_eq_false, not_false_eq_true] | simp only [hg, decide_true, decide_false, and_true, true_and, and_false, false_and, not_true_eq_false, not_false_eq_true])
        | (with_reducible refine And.intro rfl (And.intro rfl rfl))
        | (with_reducible refine thenQ_n ?_)
        | (with_reducible refine thenQ_exit ?_)
        | (with_reducible refine thenQ_ret ?_)
        | (with_reducible refine midQ_ret ?_)
        | (with_reducible refine midQ_exit ?_)
        | (with_reducible refine blockQ_same ?_)
        | (with_reducible refine blockQ_ret ?_)
        | (with_reducible refine blockQ_n ?_)
        | (with_reducible refine AW.exit ?_)
        | (with_reducible refine AW.block ?_)
        | (with_reducible refine AW.cond_t rfl ?_)
        | (with_reducible refine AW.cond_f rfl ?_)
        | (with_reducible refine AW.cond_dec rfl (fun hc => ?_) (fun hc => ?_))
        | (with_reducible refine AW.cond rfl (fun hc => ?_) (fun hc => ?_) <;> try simp only [Bool.not_eq_eq_eq_not, Bool.not_true, Bool.not_false, decide_eq_true_eq, decide_eq_false_iff_not] at hc)
        | (with_reducible refine AW.seq ?_)
        | (with_reducible refine AW.skip ?_)
        | (with_reducible refine AW.ret ?_)
        | (with_reducible refine And.intro ?_ ?_)
        | (with_reducible intro hg; first | simp only [eq_false hg, decide_true, decide_false, and_true, true_and, and_false, false_and, not_true_eq_false, not_false_eq_true] | simp only [eq_true hg, decide_true, decide_false, and_true, true_and, and_false, false_and, not_true_eq_false, not_false_eq_true])
        | (with_reducible refine retQ_drop ?_; simp only [vRes, packRes, vLoad, vPart, lk, cond, Nat.reduceBEq, get_loc, getD_zero, getD_succ, true_and, List.length_cons, List.length_nil, Nat.reduceAdd, Nat.reduceLT, Nat.reduceLeDiff, List.take_succ_cons, List.take_zero, List.drop_succ_cons, List.drop_zero, vvar_2, vzero_2, vknd_2, vsn_2, vvar_3, vzero_3, vknd_3, vsn_3, vvar_4, vzero_4, vknd_4, vsn_4, vsl_27, vkn_27, vvar_27, vzero_27, vsl_46, vkn_46, vvar_46, vzero_46, vvar_62, vzero_62, vbld_62, vvar_116, vzero_116, vmp_116, vfld_62_0, vfld_62_1])
        )
      refine ⟨_, _, FinOk.drop hB (Pl.ids (by (repeat' (first | exact Pl.v _ | exact Pl.junk | exact Pl.rd rfl _ | exact pl_nil | refine pl_cons ?_ ?_ | refine Pl.agg ?_ | refine Pl.tup ?_ | refine Pl.rp ?_ | refine Pl.fn ?_)); (first | done | fail))), ?_, rfl⟩
      refine v_bool ?_
      simp only [true_iff]
      refine hiff'.2 (fun k k1 k2 hc1 => ?_)
      have h1 := (ksTo_mem (Nat.le_refl _) k).2 (by omega : 0 < cntTo zs zs.length k)
      obtain ⟨q, hq1, hq2⟩ := List.mem_iff_getElem.1 h1
      have h2 := hall' q (by rw [entTo_len]; exact hq1)
      exact hseen q h2 k (by rw [List.getElem?_eq_getElem hq1, hq2]) (by omega)
  ·
    refine AC.enter envOk Tryd.func85 rfl (by decide) Tryd.ntmps85 Tryd.results85 (by simp) fun hB => ?_
    repeat' (first
      | (with_reducible refine AW.sreg envOk fun K hK => ?_)
      | (with_reducible refine AW.region envOk fun K hK => ?_)
      | (with_reducible refine vcL_nil ?_)
      | (with_reducible refine vcL_cons fun K' hK' => ?_; simp only [isC, Bool.false_or, Bool.or_true, vAppend, elems, ↓reduceDIte, List.take_length, Nat.le_refl, List.drop_zero, vGuard, undef, Bool.not_eq_eq_eq_not, dstOk, vcOp, vcF, isPure, putS, vcCall, St.ev, St.put, lk, AVal.ofVal, initS, Nat.reduceLT, true_and, and_true, vBin, vUn, vPick, vConv, vPart, vLoad, vStore, vIdxA, vIdx, vFldA, vExt, vLen, vMin, vNil, vAlloc, vBox, vBuild, vBuildSl, vMake, vSlice, bnd, partsA, fillA, decAll, AVal.flat, AVal.cell, cellsOk, setRange, ETy.enc, ETy.dec, ETy.sz, ETy.d, cond, Nat.reduceBEq, Nat.reduceAdd, Int.toNat_natCast, List.length_set, List.length_append, List.length_replicate, List.length_take, Nat.reduceSub, Nat.reduceEqDiff, get_loc, setBox_loc, next_eq, List.length_cons, List.length_nil, List.map_cons, List.map_nil, List.append_nil, List.nil_append, List.cons_append, List.set_cons_zero, List.set_cons_succ, getD_zero, getD_succ, List.getElem?_cons_succ, List.getElem?_cons_zero, List.take_succ_cons, List.take_zero, List.drop_succ_cons, List.drop_zero, List.all_cons, List.all_nil, Bool.and_true, Bool.true_and, Option.bind_some, Option.map_some, Option.map_none, decide_eq_true_eq, decide_eq_false_iff_not, ne_eq, Bool.not_eq_true, Bool.not_eq_false, Decidable.not_not, not_true_eq_false, not_false_eq_true, forall_const, false_implies, Bool.true_eq_false, Bool.false_eq_true, reduceCtorEq, decide_true, decide_false, Bool.not_true, Bool.not_false, if_true, if_false, Nat.zero_add, Nat.lt_irrefl, Value.oneCell', gt_iff_lt, Nat.reduceLeDiff, Nat.lt_add_one, List.length_append, vMakeMap, vLookup, vMapUpd, vMapEnt, vEntSt, vRange, vEntry, KK.of, KK.av, lkRes, entry_last, vvar_2, vzero_2, vknd_2, vsn_2, vvar_3, vzero_3, vknd_3, vsn_3, vvar_4, vzero_4, vknd_4, vsn_4, vsl_27, vkn_27, vvar_27, vzero_27, vsl_46, vkn_46, vvar_46, vzero_46, vvar_62, vzero_62, vbld_62, vvar_116, vzero_116, vmp_116, vfld_62_0, vfld_62_1]; try simp (disch := omega) only [wrap64])
      | (with_reducible refine hK' _ ?_; clear hK' K')
      | (with_reducible refine hK _ ?_; clear hK K)
      | (with_reducible refine vcC_pure (in51_ac _ _ _ _) ?_)
      | (with_reducible refine vCall_pure (in51_ac _ _ _ _) ?_)
      | ((with_reducible show vCall _ (AVal.fn 103 _) _ _ _); refine False.elim (hsz ⟨by omega, by omega⟩))
      | (with_reducible refine And.intro (And.intro rfl rfl) ?_)
      | (with_reducible refine And.intro (by omega) ?_)
      | (with_reducible refine And.intro (fun hg => ?_) (fun hg => ?_) <;> first | simp only [eq_false hg, decide_true, decide_false, and_true, true_and, and_false, false_and, not_true_eq_false, not_false_eq_true] | simp only [eq_true hg, decide_true, decide_false, and_true, true_and, and_false, false_and, not_true_eq_false, not_false_eq_true] | simp only [hg, decide_true, decide_false, and_true, true_and, and_false, false_and, not_true_eq_false, not_false_eq_true])
      | (with_reducible refine And.intro rfl (And.intro rfl rfl))
      | (with_reducible refine thenQ_n ?_)
      | (with_reducible refine thenQ_exit ?_)
      | (with_reducible refine thenQ_ret ?_)
      | (with_reducible refine midQ_ret ?_)
      | (with_reducible refine midQ_exit ?_)
      | (with_reducible refine blockQ_same ?_)
      | (with_reducible refine blockQ_ret ?_)
      | (with_reducible refine blockQ_n ?_)
      | (with_reducible refine AW.exit ?_)
      | (with_reducible refine AW.block ?_)
      | (with_reducible refine AW.cond_t rfl ?_)
      | (with_reducible refine AW.cond_f rfl ?_)
      | (with_reducible refine AW.cond_dec rfl (fun hc => ?_) (fun hc => ?_))
      | (with_reducible refine AW.cond rfl (fun hc => ?_) (fun hc => ?_) <;> try simp only [Bool.not_eq_eq_eq_not, Bool.not_true, Bool.not_false, decide_eq_true_eq, decide_eq_false_iff_not] at hc)
      | (with_reducible refine AW.seq ?_)
      | (with_reducible refine AW.skip ?_)
      | (with_reducible refine AW.ret ?_)
      | (with_reducible refine And.intro ?_ ?_)
      | (with_reducible intro hg; first | simp only [eq_false hg, decide_true, decide_false, and_true, true_and, and_false, false_and, not_true_eq_false, not_false_eq_true] | simp only [eq_true hg, decide_true, decide_false, and_true, true_and, and_false, false_and, not_true_eq_false, not_false_eq_true])
      | (with_reducible refine retQ_drop ?_; simp only [vRes, packRes, vLoad, vPart, lk, cond, Nat.reduceBEq, get_loc, getD_zero, getD_succ, true_and, List.length_cons, List.length_nil, Nat.reduceAdd, Nat.reduceLT, Nat.reduceLeDiff, List.take_succ_cons, List.take_zero, List.drop_succ_cons, List.drop_zero, vvar_2, vzero_2, vknd_2, vsn_2, vvar_3, vzero_3, vknd_3, vsn_3, vvar_4, vzero_4, vknd_4, vsn_4, vsl_27, vkn_27, vvar_27, vzero_27, vsl_46, vkn_46, vvar_46, vzero_46, vvar_62, vzero_62, vbld_62, vvar_116, vzero_116, vmp_116, vfld_62_0, vfld_62_1])
      )
    all_goals first
      | (refine ⟨_, _, FinOk.drop hB (Pl.ids (by (repeat' (first | exact Pl.v _ | exact Pl.junk | exact Pl.rd rfl _ | exact pl_nil | refine pl_cons ?_ ?_ | refine Pl.agg ?_ | refine Pl.tup ?_ | refine Pl.rp ?_ | refine Pl.fn ?_)); (first | done | fail))), ?_, rfl⟩
         refine v_bool ?_
         simp only [Bool.false_eq_true, false_iff]
         intro h
         exact hsz ⟨⟨h.1.1, h.1.2.1⟩, h.1.2.2⟩)
      | (exfalso; omega)
end Go.Proofs.YtlgagjboijkpgaaDoor

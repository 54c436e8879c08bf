/- Texts of this seat that the law stands on, put together. No conditions. -/
import Derived.Test.YtdphlhplcmjepaaZ8
section
set_option linter.unusedSimpArgs false
set_option linter.unusedVariables false
set_option maxHeartbeats 1000000
namespace Go.Proofs.Ytdphlhplcmjepaa
open Go.Eng
theorem list_extL (xs ys : List (List Int)) (hl : xs.length = ys.length) (h : ∀ j, j < xs.length → xs.getD j [] = ys.getD j []) : xs = ys := by
  apply List.ext_getElem? ; intro j
  by_cases hj : j < xs.length
  · have := h j hj
    simp only [List.getD, List.getElem?_eq_getElem hj, List.getElem?_eq_getElem (show j < ys.length by omega), Option.getD_some] at this ⊢
    rw [this]
  · rw [List.getElem?_eq_none (by omega), List.getElem?_eq_none (by omega)]
/-- No list is longer than that. -/
def Fits (n : Nat) (m : Mz) : Prop := m.length ≤ n ∧ ∀ i, (m.getD i []).length ≤ n
theorem szSS_ac (m : Mz) (n : Int) (hm : Fits 9223372036854775807 m) (hn : 0 ≤ n ∧ n ≤ 1048576) (H : List ABox) : AC Try.prog 42 [.rd (.sli .i64) (m), .v (.int .i64 (n))] H (fun r H' => ∃ x : Int, ((0 ≤ x ∧ x ≤ 1048576 ∧ Fits 1048576 m) ∨ x = -1) ∧ r = .v (.int .i64 (x)) ∧ H' = H) := by
  obtain ⟨hm1, hm2⟩ := hm
  refine AC.enter envOk Try.func42 rfl (by decide) Try.ntmps42 Try.results42 (by simp) fun hB => ?_
  repeat' (first
    | (with_reducible refine AW.sreg envOk fun K hK => ?_)
    | (with_reducible refine AW.region envOk fun K hK => ?_)
    | (with_reducible refine vcL_nil ?_)
    | (with_reducible (first | refine vcL_cons fun K' hK' => ?_); simp only [isC, Bool.false_or, Bool.or_true, vAppend, elems, ↓reduceDIte, List.take_length, Nat.le_refl, List.drop_zero, vGuard, undef, Bool.not_eq_eq_eq_not, dstOk, vcOp, vcF, isPure, putS, vcCall, St.ev, St.put, lk, AVal.ofVal, initS, Nat.reduceLT, true_and, and_true, vBin, vUn, vPick, vConv, vPart, vLoad, vStore, vIdxA, vIdx, vFldA, vExt, vLen, vMin, vNil, vAlloc, vBox, vBuild, vBuildSl, vMake, vSlice, bnd, partsA, fillA, decAll, AVal.flat, AVal.cell, cellsOk, setRange, ETy.enc, ETy.dec, ETy.sz, ETy.d, cond, Nat.reduceBEq, Nat.reduceAdd, Int.toNat_natCast, List.length_set, List.length_append, List.length_replicate, List.length_take, Nat.reduceSub, Nat.reduceEqDiff, get_loc, setBox_loc, next_eq, List.length_cons, List.length_nil, List.map_cons, List.map_nil, List.append_nil, List.nil_append, List.cons_append, List.set_cons_zero, List.set_cons_succ, getD_zero, getD_succ, List.getElem?_cons_succ, List.getElem?_cons_zero, List.take_succ_cons, List.take_zero, List.drop_succ_cons, List.drop_zero, List.all_cons, List.all_nil, Bool.and_true, Bool.true_and, Option.bind_some, Option.map_some, Option.map_none, decide_eq_true_eq, decide_eq_false_iff_not, ne_eq, Bool.not_eq_true, Bool.not_eq_false, Decidable.not_not, not_true_eq_false, not_false_eq_true, forall_const, false_implies, Bool.true_eq_false, Bool.false_eq_true, reduceCtorEq, decide_true, decide_false, Bool.not_true, Bool.not_false, if_true, if_false, Nat.zero_add, Nat.lt_irrefl, Value.oneCell', gt_iff_lt, Nat.reduceLeDiff, Nat.lt_add_one, List.length_append, vSealSl, vMakeMap, vLookup, vMapUpd, vMapEnt, vEntSt, vRange, vEntry, KK.of, KK.av, lkRes, entry_last, vvar_3, vzero_3, vknd_3, vsn_3, vvar_4, vzero_4, vknd_4, vsn_4, vsl_22, vkn_22, vvar_22, vzero_22, vsl_44, vkn_44, vvar_44, vzero_44]; try simp (disch := omega) only [wrap64])
    | (with_reducible refine hK' _ ?_; clear hK' K')
    | (with_reducible refine hK _ ?_; clear hK K)
    | (with_reducible refine And.intro (And.intro rfl rfl) ?_)
    | (with_reducible refine And.intro (by omega) ?_)
    | (with_reducible refine And.intro (fun hg => ?_) (fun hg => ?_) <;> first | simp only [eq_false hg, decide_true, decide_false, and_true, true_and, and_false, false_and, not_true_eq_false, not_false_eq_true] | simp only [eq_true hg, decide_true, decide_false, and_true, true_and, and_false, false_and, not_true_eq_false, not_false_eq_true] | simp only [hg, decide_true, decide_false, and_true, true_and, and_false, false_and, not_true_eq_false, not_false_eq_true])
    | (with_reducible refine And.intro rfl (And.intro rfl rfl))
    | (with_reducible refine thenQ_n ?_)
    | (with_reducible refine thenQ_exit ?_)
    | (with_reducible refine thenQ_ret ?_)
    | (with_reducible refine midQ_ret ?_)
    | (with_reducible refine midQ_exit ?_)
    | (with_reducible refine blockQ_same ?_)
    | (with_reducible refine blockQ_ret ?_)
    | (with_reducible refine blockQ_n ?_)
    | (with_reducible refine AW.exit ?_)
    | (with_reducible refine AW.block ?_)
    | (with_reducible refine AW.cond_t rfl ?_)
    | (with_reducible refine AW.cond_f rfl ?_)
    | (with_reducible refine AW.cond_dec rfl (fun hc => ?_) (fun hc => ?_))
    | (with_reducible refine AW.cond rfl (fun hc => ?_) (fun hc => ?_) <;> try simp only [Bool.not_eq_eq_eq_not, Bool.not_true, Bool.not_false, decide_eq_true_eq, decide_eq_false_iff_not] at hc)
    | (with_reducible refine AW.seq ?_)
    | (with_reducible refine AW.skip ?_)
    | (with_reducible refine AW.ret ?_)
    | (with_reducible refine And.intro ?_ ?_)
    | (with_reducible intro hg; first | simp only [eq_false hg, decide_true, decide_false, and_true, true_and, and_false, false_and, not_true_eq_false, not_false_eq_true] | simp only [eq_true hg, decide_true, decide_false, and_true, true_and, and_false, false_and, not_true_eq_false, not_false_eq_true])
    | (with_reducible refine retQ_drop ?_; simp only [vRes, packRes, vLoad, vPart, lk, cond, Nat.reduceBEq, get_loc, getD_zero, getD_succ, true_and, List.length_cons, List.length_nil, Nat.reduceAdd, Nat.reduceLT, Nat.reduceLeDiff, List.take_succ_cons, List.take_zero, List.drop_succ_cons, List.drop_zero, vvar_3, vzero_3, vknd_3, vsn_3, vvar_4, vzero_4, vknd_4, vsn_4, vsl_22, vkn_22, vvar_22, vzero_22, vsl_44, vkn_44, vvar_44, vzero_44])
    )
  · exact ⟨_, _, FinOk.drop hB (.v _), -1, .inr rfl, rfl, rfl⟩
  refine AW.loop (fun z : Nat × Int => (⟨27, [(0, .rd (.sli .i64) (m)), (1, .v (.int .i64 (z.2))), (5, .v (.int .i64 ((z.1 : Int))))], H, []⟩ : St)) (fun z => z.1 ≤ m.length ∧ (0 ≤ z.2 ∧ z.2 ≤ 1048576) ∧ ∀ j, j < z.1 → (m.getD j []).length ≤ 1048576) (fun z => m.length - z.1) (0, n - (m.length : Int)) ⟨Nat.zero_le _, by simp only; omega, fun j h => absurd h (by simp only; omega)⟩ (Weak.slots (by repeat' first | exact trivial | exact ⟨rfl, trivial⟩ | refine ⟨rfl, ?_⟩)) ?_
  intro ⟨i, x⟩ ⟨hi, hx, hI⟩
  simp only at hi hx hI ⊢
  have hl := hm2 i
  repeat' (first
    | (with_reducible refine AW.sreg envOk fun K hK => ?_)
    | (with_reducible refine AW.region envOk fun K hK => ?_)
    | (with_reducible refine vcL_nil ?_)
    | (with_reducible (first | refine vcL_cons fun K' hK' => ?_); simp only [isC, Bool.false_or, Bool.or_true, vAppend, elems, ↓reduceDIte, List.take_length, Nat.le_refl, List.drop_zero, vGuard, undef, Bool.not_eq_eq_eq_not, dstOk, vcOp, vcF, isPure, putS, vcCall, St.ev, St.put, lk, AVal.ofVal, initS, Nat.reduceLT, true_and, and_true, vBin, vUn, vPick, vConv, vPart, vLoad, vStore, vIdxA, vIdx, vFldA, vExt, vLen, vMin, vNil, vAlloc, vBox, vBuild, vBuildSl, vMake, vSlice, bnd, partsA, fillA, decAll, AVal.flat, AVal.cell, cellsOk, setRange, ETy.enc, ETy.dec, ETy.sz, ETy.d, cond, Nat.reduceBEq, Nat.reduceAdd, Int.toNat_natCast, List.length_set, List.length_append, List.length_replicate, List.length_take, Nat.reduceSub, Nat.reduceEqDiff, get_loc, setBox_loc, next_eq, List.length_cons, List.length_nil, List.map_cons, List.map_nil, List.append_nil, List.nil_append, List.cons_append, List.set_cons_zero, List.set_cons_succ, getD_zero, getD_succ, List.getElem?_cons_succ, List.getElem?_cons_zero, List.take_succ_cons, List.take_zero, List.drop_succ_cons, List.drop_zero, List.all_cons, List.all_nil, Bool.and_true, Bool.true_and, Option.bind_some, Option.map_some, Option.map_none, decide_eq_true_eq, decide_eq_false_iff_not, ne_eq, Bool.not_eq_true, Bool.not_eq_false, Decidable.not_not, not_true_eq_false, not_false_eq_true, forall_const, false_implies, Bool.true_eq_false, Bool.false_eq_true, reduceCtorEq, decide_true, decide_false, Bool.not_true, Bool.not_false, if_true, if_false, Nat.zero_add, Nat.lt_irrefl, Value.oneCell', gt_iff_lt, Nat.reduceLeDiff, Nat.lt_add_one, List.length_append, vSealSl, vMakeMap, vLookup, vMapUpd, vMapEnt, vEntSt, vRange, vEntry, KK.of, KK.av, lkRes, entry_last, vvar_3, vzero_3, vknd_3, vsn_3, vvar_4, vzero_4, vknd_4, vsn_4, vsl_22, vkn_22, vvar_22, vzero_22, vsl_44, vkn_44, vvar_44, vzero_44]; try simp (disch := omega) only [wrap64])
    | (with_reducible refine hK' _ ?_; clear hK' K')
    | (with_reducible refine hK _ ?_; clear hK K)
    | (with_reducible refine vcC_pure (sz48_ac _ _ (by omega) (by omega) _) ?_)
    | (with_reducible refine vCall_pure (sz48_ac _ _ (by omega) (by omega) _) ?_)
    | (with_reducible refine And.intro (And.intro rfl rfl) ?_)
    | (with_reducible refine And.intro (by omega) ?_)
    | (with_reducible refine And.intro (fun hg => ?_) (fun hg => ?_) <;> first | simp only [eq_false hg, decide_true, decide_false, and_true, true_and, and_false, false_and, not_true_eq_false, not_false_eq_true] | simp only [eq_true hg, decide_true, decide_false, and_true, true_and, and_false, false_and, not_true_eq_false, not_false_eq_true] | simp only [hg, decide_true, decide_false, and_true, true_and, and_false, false_and, not_true_eq_false, not_false_eq_true])
    | (with_reducible refine And.intro rfl (And.intro rfl rfl))
    | (with_reducible refine thenQ_n ?_)
    | (with_reducible refine thenQ_exit ?_)
    | (with_reducible refine thenQ_ret ?_)
    | (with_reducible refine midQ_ret ?_)
    | (with_reducible refine midQ_exit ?_)
    | (with_reducible refine blockQ_same ?_)
    | (with_reducible refine blockQ_ret ?_)
    | (with_reducible refine blockQ_n ?_)
    | (with_reducible refine AW.exit ?_)
    | (with_reducible refine AW.block ?_)
    | (with_reducible refine AW.cond_t rfl ?_)
    | (with_reducible refine AW.cond_f rfl ?_)
    | (with_reducible refine AW.cond_dec rfl (fun hc => ?_) (fun hc => ?_))
    | (with_reducible refine AW.cond rfl (fun hc => ?_) (fun hc => ?_) <;> try simp only [Bool.not_eq_eq_eq_not, Bool.not_true, Bool.not_false, decide_eq_true_eq, decide_eq_false_iff_not] at hc)
    | (with_reducible refine AW.seq ?_)
    | (with_reducible refine AW.skip ?_)
    | (with_reducible refine AW.ret ?_)
    | (with_reducible refine And.intro ?_ ?_)
    | (with_reducible intro hg; first | simp only [eq_false hg, decide_true, decide_false, and_true, true_and, and_false, false_and, not_true_eq_false, not_false_eq_true] | simp only [eq_true hg, decide_true, decide_false, and_true, true_and, and_false, false_and, not_true_eq_false, not_false_eq_true])
    | (with_reducible refine retQ_drop ?_; simp only [vRes, packRes, vLoad, vPart, lk, cond, Nat.reduceBEq, get_loc, getD_zero, getD_succ, true_and, List.length_cons, List.length_nil, Nat.reduceAdd, Nat.reduceLT, Nat.reduceLeDiff, List.take_succ_cons, List.take_zero, List.drop_succ_cons, List.drop_zero, vvar_3, vzero_3, vknd_3, vsn_3, vvar_4, vzero_4, vknd_4, vsn_4, vsl_22, vkn_22, vvar_22, vzero_22, vsl_44, vkn_44, vvar_44, vzero_44])
    )
  · exact ⟨_, _, FinOk.drop hB (.v _), -1, .inr rfl, rfl, rfl⟩
  · refine ⟨(i + 1, x - ((m.getD i []).length : Int)), ⟨by simp only; omega, by simp only; omega, fun j hj => ?_⟩, by simp only; omega, ?_⟩
    · simp only at hj
      by_cases e : j = i
      · subst e; omega
      · exact hI j (by omega)
    · rw [if_neg (by omega)]
      exact (Weak.slots (by repeat' first | exact trivial | exact ⟨rfl, trivial⟩ | refine ⟨rfl, ?_⟩))
  · refine ⟨_, _, FinOk.drop hB (.v _), x, .inl ⟨hx.1, hx.2, by omega, fun j => ?_⟩, rfl, rfl⟩
    by_cases e : j < m.length
    · exact hI j (by omega)
    · have : m.getD j [] = [] := by simp [List.getD, List.getElem?_eq_none (Nat.le_of_not_lt e)]
      rw [this]; simp
theorem toSS_ac (m : Mz) (hm : Fits 1048576 m) (H : List ABox) : AC Try.prog 44 [.rd (.sli .i64) (m)] H (fun r H' => r = .rd (.sli .i64) (m) ∧ H' = H) := by
  obtain ⟨hm1, hm2⟩ := hm
  refine AC.enter envOk Try.func44 rfl (by decide) Try.ntmps44 Try.results44 (by simp) fun hB => ?_
  repeat' (first
    | (with_reducible refine AW.sreg envOk fun K hK => ?_)
    | (with_reducible refine AW.region envOk fun K hK => ?_)
    | (with_reducible refine vcL_nil ?_)
    | (with_reducible (first | refine vcL_cons fun K' hK' => ?_); simp only [isC, Bool.false_or, Bool.or_true, vAppend, elems, ↓reduceDIte, List.take_length, Nat.le_refl, List.drop_zero, vGuard, undef, Bool.not_eq_eq_eq_not, dstOk, vcOp, vcF, isPure, putS, vcCall, St.ev, St.put, lk, AVal.ofVal, initS, Nat.reduceLT, true_and, and_true, vBin, vUn, vPick, vConv, vPart, vLoad, vStore, vIdxA, vIdx, vFldA, vExt, vLen, vMin, vNil, vAlloc, vBox, vBuild, vBuildSl, vMake, vSlice, bnd, partsA, fillA, decAll, AVal.flat, AVal.cell, cellsOk, setRange, ETy.enc, ETy.dec, ETy.sz, ETy.d, cond, Nat.reduceBEq, Nat.reduceAdd, Int.toNat_natCast, List.length_set, List.length_append, List.length_replicate, List.length_take, Nat.reduceSub, Nat.reduceEqDiff, get_loc, setBox_loc, next_eq, List.length_cons, List.length_nil, List.map_cons, List.map_nil, List.append_nil, List.nil_append, List.cons_append, List.set_cons_zero, List.set_cons_succ, getD_zero, getD_succ, List.getElem?_cons_succ, List.getElem?_cons_zero, List.take_succ_cons, List.take_zero, List.drop_succ_cons, List.drop_zero, List.all_cons, List.all_nil, Bool.and_true, Bool.true_and, Option.bind_some, Option.map_some, Option.map_none, decide_eq_true_eq, decide_eq_false_iff_not, ne_eq, Bool.not_eq_true, Bool.not_eq_false, Decidable.not_not, not_true_eq_false, not_false_eq_true, forall_const, false_implies, Bool.true_eq_false, Bool.false_eq_true, reduceCtorEq, decide_true, decide_false, Bool.not_true, Bool.not_false, if_true, if_false, Nat.zero_add, Nat.lt_irrefl, Value.oneCell', gt_iff_lt, Nat.reduceLeDiff, Nat.lt_add_one, List.length_append, vSealSl, vMakeMap, vLookup, vMapUpd, vMapEnt, vEntSt, vRange, vEntry, KK.of, KK.av, lkRes, entry_last, vvar_3, vzero_3, vknd_3, vsn_3, vvar_4, vzero_4, vknd_4, vsn_4, vsl_22, vkn_22, vvar_22, vzero_22, vsl_44, vkn_44, vvar_44, vzero_44]; try simp (disch := omega) only [wrap64])
    | (with_reducible refine hK' _ ?_; clear hK' K')
    | (with_reducible refine hK _ ?_; clear hK K)
    | (with_reducible refine And.intro (And.intro rfl rfl) ?_)
    | (with_reducible refine And.intro (by omega) ?_)
    | (with_reducible refine And.intro (fun hg => ?_) (fun hg => ?_) <;> first | simp only [eq_false hg, decide_true, decide_false, and_true, true_and, and_false, false_and, not_true_eq_false, not_false_eq_true] | simp only [eq_true hg, decide_true, decide_false, and_true, true_and, and_false, false_and, not_true_eq_false, not_false_eq_true] | simp only [hg, decide_true, decide_false, and_true, true_and, and_false, false_and, not_true_eq_false, not_false_eq_true])
    | (with_reducible refine And.intro rfl (And.intro rfl rfl))
    | (with_reducible refine thenQ_n ?_)
    | (with_reducible refine thenQ_exit ?_)
    | (with_reducible refine thenQ_ret ?_)
    | (with_reducible refine midQ_ret ?_)
    | (with_reducible refine midQ_exit ?_)
    | (with_reducible refine blockQ_same ?_)
    | (with_reducible refine blockQ_ret ?_)
    | (with_reducible refine blockQ_n ?_)
    | (with_reducible refine AW.exit ?_)
    | (with_reducible refine AW.block ?_)
    | (with_reducible refine AW.cond_t rfl ?_)
    | (with_reducible refine AW.cond_f rfl ?_)
    | (with_reducible refine AW.cond_dec rfl (fun hc => ?_) (fun hc => ?_))
    | (with_reducible refine AW.cond rfl (fun hc => ?_) (fun hc => ?_) <;> try simp only [Bool.not_eq_eq_eq_not, Bool.not_true, Bool.not_false, decide_eq_true_eq, decide_eq_false_iff_not] at hc)
    | (with_reducible refine AW.seq ?_)
    | (with_reducible refine AW.skip ?_)
    | (with_reducible refine AW.ret ?_)
    | (with_reducible refine And.intro ?_ ?_)
    | (with_reducible intro hg; first | simp only [eq_false hg, decide_true, decide_false, and_true, true_and, and_false, false_and, not_true_eq_false, not_false_eq_true] | simp only [eq_true hg, decide_true, decide_false, and_true, true_and, and_false, false_and, not_true_eq_false, not_false_eq_true])
    | (with_reducible refine retQ_drop ?_; simp only [vRes, packRes, vLoad, vPart, lk, cond, Nat.reduceBEq, get_loc, getD_zero, getD_succ, true_and, List.length_cons, List.length_nil, Nat.reduceAdd, Nat.reduceLT, Nat.reduceLeDiff, List.take_succ_cons, List.take_zero, List.drop_succ_cons, List.drop_zero, vvar_3, vzero_3, vknd_3, vsn_3, vvar_4, vzero_4, vknd_4, vsn_4, vsl_22, vkn_22, vvar_22, vzero_22, vsl_44, vkn_44, vvar_44, vzero_44])
    )
  refine AW.loop (fun i : Nat => (⟨23, [(0, .rd (.sli .i64) (m)), (3, .sl 1 (H.length + 0) 0 (m.length)), (4, .v (.int .i64 ((i : Int))))], H, [.row false (.sli .i64) (m.take i ++ List.replicate (m.length - i) ([] : List Int))]⟩ : St)) (fun i => i ≤ m.length) (fun i => m.length - i) 0 (Nat.zero_le _) ?_ ?_
  · simp only [List.take_zero, List.nil_append, Nat.sub_zero]
    exact (Weak.slots (by repeat' first | exact trivial | exact ⟨rfl, trivial⟩ | refine ⟨rfl, ?_⟩))
  · intro i hi
    have hl := hm2 i
    repeat' (first
      | (with_reducible refine AW.sreg envOk fun K hK => ?_)
      | (with_reducible refine AW.region envOk fun K hK => ?_)
      | (with_reducible refine vcL_nil ?_)
      | (with_reducible (first | refine vcL_cons fun K' hK' => ?_); simp only [isC, Bool.false_or, Bool.or_true, vAppend, elems, ↓reduceDIte, List.take_length, Nat.le_refl, List.drop_zero, vGuard, undef, Bool.not_eq_eq_eq_not, dstOk, vcOp, vcF, isPure, putS, vcCall, St.ev, St.put, lk, AVal.ofVal, initS, Nat.reduceLT, true_and, and_true, vBin, vUn, vPick, vConv, vPart, vLoad, vStore, vIdxA, vIdx, vFldA, vExt, vLen, vMin, vNil, vAlloc, vBox, vBuild, vBuildSl, vMake, vSlice, bnd, partsA, fillA, decAll, AVal.flat, AVal.cell, cellsOk, setRange, ETy.enc, ETy.dec, ETy.sz, ETy.d, cond, Nat.reduceBEq, Nat.reduceAdd, Int.toNat_natCast, List.length_set, List.length_append, List.length_replicate, List.length_take, Nat.reduceSub, Nat.reduceEqDiff, get_loc, setBox_loc, next_eq, List.length_cons, List.length_nil, List.map_cons, List.map_nil, List.append_nil, List.nil_append, List.cons_append, List.set_cons_zero, List.set_cons_succ, getD_zero, getD_succ, List.getElem?_cons_succ, List.getElem?_cons_zero, List.take_succ_cons, List.take_zero, List.drop_succ_cons, List.drop_zero, List.all_cons, List.all_nil, Bool.and_true, Bool.true_and, Option.bind_some, Option.map_some, Option.map_none, decide_eq_true_eq, decide_eq_false_iff_not, ne_eq, Bool.not_eq_true, Bool.not_eq_false, Decidable.not_not, not_true_eq_false, not_false_eq_true, forall_const, false_implies, Bool.true_eq_false, Bool.false_eq_true, reduceCtorEq, decide_true, decide_false, Bool.not_true, Bool.not_false, if_true, if_false, Nat.zero_add, Nat.lt_irrefl, Value.oneCell', gt_iff_lt, Nat.reduceLeDiff, Nat.lt_add_one, List.length_append, vSealSl, vMakeMap, vLookup, vMapUpd, vMapEnt, vEntSt, vRange, vEntry, KK.of, KK.av, lkRes, entry_last, vvar_3, vzero_3, vknd_3, vsn_3, vvar_4, vzero_4, vknd_4, vsn_4, vsl_22, vkn_22, vvar_22, vzero_22, vsl_44, vkn_44, vvar_44, vzero_44]; try simp (disch := omega) only [wrap64])
      | (with_reducible refine hK' _ ?_; clear hK' K')
      | (with_reducible refine hK _ ?_; clear hK K)
      | (with_reducible refine vcC_pure (toInts_ac _ (by omega) _) ?_)
      | (with_reducible refine vCall_pure (toInts_ac _ (by omega) _) ?_)
      | (with_reducible refine And.intro (And.intro rfl rfl) ?_)
      | (with_reducible refine And.intro (by omega) ?_)
      | (with_reducible refine And.intro (fun hg => ?_) (fun hg => ?_) <;> first | simp only [eq_false hg, decide_true, decide_false, and_true, true_and, and_false, false_and, not_true_eq_false, not_false_eq_true] | simp only [eq_true hg, decide_true, decide_false, and_true, true_and, and_false, false_and, not_true_eq_false, not_false_eq_true] | simp only [hg, decide_true, decide_false, and_true, true_and, and_false, false_and, not_true_eq_false, not_false_eq_true])
      | (with_reducible refine And.intro rfl (And.intro rfl rfl))
      | (with_reducible refine thenQ_n ?_)
      | (with_reducible refine thenQ_exit ?_)
      | (with_reducible refine thenQ_ret ?_)
      | (with_reducible refine midQ_ret ?_)
      | (with_reducible refine midQ_exit ?_)
      | (with_reducible refine blockQ_same ?_)
      | (with_reducible refine blockQ_ret ?_)
      | (with_reducible refine blockQ_n ?_)
      | (with_reducible refine AW.exit ?_)
      | (with_reducible refine AW.block ?_)
      | (with_reducible refine AW.cond_t rfl ?_)
      | (with_reducible refine AW.cond_f rfl ?_)
      | (with_reducible refine AW.cond_dec rfl (fun hc => ?_) (fun hc => ?_))
      | (with_reducible refine AW.cond rfl (fun hc => ?_) (fun hc => ?_) <;> try simp only [Bool.not_eq_eq_eq_not, Bool.not_true, Bool.not_false, decide_eq_true_eq, decide_eq_false_iff_not] at hc)
      | (with_reducible refine AW.seq ?_)
      | (with_reducible refine AW.skip ?_)
      | (with_reducible refine AW.ret ?_)
      | (with_reducible refine And.intro ?_ ?_)
      | (with_reducible intro hg; first | simp only [eq_false hg, decide_true, decide_false, and_true, true_and, and_false, false_and, not_true_eq_false, not_false_eq_true] | simp only [eq_true hg, decide_true, decide_false, and_true, true_and, and_false, false_and, not_true_eq_false, not_false_eq_true])
      | (with_reducible refine retQ_drop ?_; simp only [vRes, packRes, vLoad, vPart, lk, cond, Nat.reduceBEq, get_loc, getD_zero, getD_succ, true_and, List.length_cons, List.length_nil, Nat.reduceAdd, Nat.reduceLT, Nat.reduceLeDiff, List.take_succ_cons, List.take_zero, List.drop_succ_cons, List.drop_zero, vvar_3, vzero_3, vknd_3, vsn_3, vvar_4, vzero_4, vknd_4, vsn_4, vsl_22, vkn_22, vvar_22, vzero_22, vsl_44, vkn_44, vvar_44, vzero_44])
      )
    · refine ⟨i + 1, by omega, by omega, ?_⟩
      rw [fill_set m [] (by omega)]
      exact (Weak.slots (by repeat' first | exact trivial | exact ⟨rfl, trivial⟩ | refine ⟨rfl, ?_⟩))
    · obtain rfl : i = m.length := by omega
      simp only [List.take_length, Nat.sub_self, List.replicate, List.append_nil]
      exact ⟨_, _, FinOk.seal 0 (.sli .i64) m hB (by simp) rfl (SealV.whole rfl rfl) (Pl.rd rfl _).ids, rfl, rfl⟩
theorem eqSS_ac (a b : Mz) (ha : Fits 1048576 a) (hb : Fits 1048576 b) (H : List ABox) : AC Try.prog 35 [.rd (.sli .i64) (a), .rd (.sli .i64) (b)] H (fun r H' => r = .v (.bool (decide (a = b))) ∧ H' = H) := by
  obtain ⟨ha1, ha2⟩ := ha
  obtain ⟨hb1, hb2⟩ := hb
  refine AC.enter envOk Try.func35 rfl (by decide) Try.ntmps35 Try.results35 (by simp) fun hB => ?_
  repeat' (first
    | (with_reducible refine AW.sreg envOk fun K hK => ?_)
    | (with_reducible refine AW.region envOk fun K hK => ?_)
    | (with_reducible refine AW.d0reg envOk mixed ?_ ?_ fun K hK => ?_; (first | rfl | exact base_len | exact base_len0); kernel_rfl)
    | (with_reducible refine AW.d0 envOk mixed ?_ ?_ fun K hK => ?_; (first | rfl | exact base_len | exact base_len0); kernel_rfl)
    | (with_reducible refine vcD_nil ?_)
    | (with_reducible refine vcL_nil ?_)
    | (with_reducible (first | refine vcD_cons fun K' hK' => ?_ | refine vcL_cons fun K' hK' => ?_); simp only [isC, Bool.false_or, Bool.or_true, vAppend, elems, ↓reduceDIte, List.take_length, Nat.le_refl, List.drop_zero, vGuard, undef, Bool.not_eq_eq_eq_not, dstOk, vcOp, vcF, isPure, putS, vcCall, St.ev, St.put, lk, AVal.ofVal, initS, Nat.reduceLT, true_and, and_true, vBin, vUn, vPick, vConv, vPart, vLoad, vStore, vIdxA, vIdx, vFldA, vExt, vLen, vMin, vNil, vAlloc, vBox, vBuild, vBuildSl, vMake, vSlice, bnd, partsA, fillA, decAll, AVal.flat, AVal.cell, cellsOk, setRange, ETy.enc, ETy.dec, ETy.sz, ETy.d, cond, Nat.reduceBEq, Nat.reduceAdd, Int.toNat_natCast, List.length_set, List.length_append, List.length_replicate, List.length_take, Nat.reduceSub, Nat.reduceEqDiff, get_loc, setBox_loc, next_eq, List.length_cons, List.length_nil, List.map_cons, List.map_nil, List.append_nil, List.nil_append, List.cons_append, List.set_cons_zero, List.set_cons_succ, getD_zero, getD_succ, List.getElem?_cons_succ, List.getElem?_cons_zero, List.take_succ_cons, List.take_zero, List.drop_succ_cons, List.drop_zero, List.all_cons, List.all_nil, Bool.and_true, Bool.true_and, Option.bind_some, Option.map_some, Option.map_none, decide_eq_true_eq, decide_eq_false_iff_not, ne_eq, Bool.not_eq_true, Bool.not_eq_false, Decidable.not_not, not_true_eq_false, not_false_eq_true, forall_const, false_implies, Bool.true_eq_false, Bool.false_eq_true, reduceCtorEq, decide_true, decide_false, Bool.not_true, Bool.not_false, if_true, if_false, Nat.zero_add, Nat.lt_irrefl, Value.oneCell', gt_iff_lt, Nat.reduceLeDiff, Nat.lt_add_one, List.length_append, vSealSl, vMakeMap, vLookup, vMapUpd, vMapEnt, vEntSt, vRange, vEntry, KK.of, KK.av, lkRes, entry_last, vvar_3, vzero_3, vknd_3, vsn_3, vvar_4, vzero_4, vknd_4, vsn_4, vsl_22, vkn_22, vvar_22, vzero_22, vsl_44, vkn_44, vvar_44, vzero_44]; try simp (disch := omega) only [wrap64])
    | (with_reducible refine hK' _ ?_; clear hK' K')
    | (with_reducible refine hK _ ?_; clear hK K)
    | (with_reducible refine And.intro (And.intro rfl rfl) ?_)
    | (with_reducible refine And.intro (by omega) ?_)
    | (with_reducible refine And.intro (fun hg => ?_) (fun hg => ?_) <;> first | simp only [eq_false hg, decide_true, decide_false, and_true, true_and, and_false, false_and, not_true_eq_false, not_false_eq_true] | simp only [eq_true hg, decide_true, decide_false, and_true, true_and, and_false, false_and, not_true_eq_false, not_false_eq_true] | simp only [hg, decide_true, decide_false, and_true, true_and, and_false, false_and, not_true_eq_false, not_false_eq_true])
    | (with_reducible refine And.intro rfl (And.intro rfl rfl))
    | (with_reducible refine thenQ_n ?_)
    | (with_reducible refine thenQ_exit ?_)
    | (with_reducible refine thenQ_ret ?_)
    | (with_reducible refine midQ_ret ?_)
    | (with_reducible refine midQ_exit ?_)
    | (with_reducible refine blockQ_same ?_)
    | (with_reducible refine blockQ_ret ?_)
    | (with_reducible refine blockQ_n ?_)
    | (with_reducible refine AW.exit ?_)
    | (with_reducible refine AW.block ?_)
    | (with_reducible refine AW.cond_t rfl ?_)
    | (with_reducible refine AW.cond_f rfl ?_)
    | (with_reducible refine AW.cond_dec rfl (fun hc => ?_) (fun hc => ?_))
    | (with_reducible refine AW.cond rfl (fun hc => ?_) (fun hc => ?_) <;> try simp only [Bool.not_eq_eq_eq_not, Bool.not_true, Bool.not_false, decide_eq_true_eq, decide_eq_false_iff_not] at hc)
    | (with_reducible refine AW.seq ?_)
    | (with_reducible refine AW.skip ?_)
    | (with_reducible refine AW.ret ?_)
    | (with_reducible refine And.intro ?_ ?_)
    | (with_reducible intro hg; first | simp only [eq_false hg, decide_true, decide_false, and_true, true_and, and_false, false_and, not_true_eq_false, not_false_eq_true] | simp only [eq_true hg, decide_true, decide_false, and_true, true_and, and_false, false_and, not_true_eq_false, not_false_eq_true])
    | (with_reducible refine retQ_drop ?_; simp only [vRes, packRes, vLoad, vPart, lk, cond, Nat.reduceBEq, get_loc, getD_zero, getD_succ, true_and, List.length_cons, List.length_nil, Nat.reduceAdd, Nat.reduceLT, Nat.reduceLeDiff, List.take_succ_cons, List.take_zero, List.drop_succ_cons, List.drop_zero, vvar_3, vzero_3, vknd_3, vsn_3, vvar_4, vzero_4, vknd_4, vsn_4, vsl_22, vkn_22, vvar_22, vzero_22, vsl_44, vkn_44, vvar_44, vzero_44])
    )
  · refine ⟨_, _, FinOk.drop hB (Pl.ids (by (repeat' (first | exact Pl.v _ | exact Pl.junk | exact Pl.rd rfl _ | exact pl_nil | refine pl_cons ?_ ?_ | refine Pl.agg ?_ | refine Pl.tup ?_ | refine Pl.rp ?_ | refine Pl.fn ?_)); (first | done | fail))), ?_, rfl⟩
    refine v_bool ?_
    simp only [Bool.false_eq_true, false_iff]
    intro h; subst h; simp_all
  refine AW.loop (fun i : Nat => (⟨27, [(0, .rd (.sli .i64) (a)), (1, .rd (.sli .i64) (b)), (5, .v (.int .i64 ((i : Int))))], H, []⟩ : St)) (fun i => i ≤ a.length ∧ ∀ j, j < i → a.getD j [] = b.getD j []) (fun i => a.length - i) 0 ⟨Nat.zero_le _, fun j h => absurd h (by omega)⟩ (Weak.slots (by repeat' first | exact trivial | exact ⟨rfl, trivial⟩ | refine ⟨rfl, ?_⟩)) ?_
  intro i ⟨hi, hI⟩
  have hlen : a.length = b.length := by omega
  have h1 := ha2 i
  have h2 := hb2 i
  repeat' (first
    | (with_reducible refine AW.sreg envOk fun K hK => ?_)
    | (with_reducible refine AW.region envOk fun K hK => ?_)
    | (with_reducible refine AW.d0reg envOk mixed ?_ ?_ fun K hK => ?_; (first | rfl | exact base_len | exact base_len0); kernel_rfl)
    | (with_reducible refine AW.d0 envOk mixed ?_ ?_ fun K hK => ?_; (first | rfl | exact base_len | exact base_len0); kernel_rfl)
    | (with_reducible refine vcD_nil ?_)
    | (with_reducible refine vcL_nil ?_)
    | (with_reducible (first | refine vcD_cons fun K' hK' => ?_ | refine vcL_cons fun K' hK' => ?_); simp only [isC, Bool.false_or, Bool.or_true, vAppend, elems, ↓reduceDIte, List.take_length, Nat.le_refl, List.drop_zero, vGuard, undef, Bool.not_eq_eq_eq_not, dstOk, vcOp, vcF, isPure, putS, vcCall, St.ev, St.put, lk, AVal.ofVal, initS, Nat.reduceLT, true_and, and_true, vBin, vUn, vPick, vConv, vPart, vLoad, vStore, vIdxA, vIdx, vFldA, vExt, vLen, vMin, vNil, vAlloc, vBox, vBuild, vBuildSl, vMake, vSlice, bnd, partsA, fillA, decAll, AVal.flat, AVal.cell, cellsOk, setRange, ETy.enc, ETy.dec, ETy.sz, ETy.d, cond, Nat.reduceBEq, Nat.reduceAdd, Int.toNat_natCast, List.length_set, List.length_append, List.length_replicate, List.length_take, Nat.reduceSub, Nat.reduceEqDiff, get_loc, setBox_loc, next_eq, List.length_cons, List.length_nil, List.map_cons, List.map_nil, List.append_nil, List.nil_append, List.cons_append, List.set_cons_zero, List.set_cons_succ, getD_zero, getD_succ, List.getElem?_cons_succ, List.getElem?_cons_zero, List.take_succ_cons, List.take_zero, List.drop_succ_cons, List.drop_zero, List.all_cons, List.all_nil, Bool.and_true, Bool.true_and, Option.bind_some, Option.map_some, Option.map_none, decide_eq_true_eq, decide_eq_false_iff_not, ne_eq, Bool.not_eq_true, Bool.not_eq_false, Decidable.not_not, not_true_eq_false, not_false_eq_true, forall_const, false_implies, Bool.true_eq_false, Bool.false_eq_true, reduceCtorEq, decide_true, decide_false, Bool.not_true, Bool.not_false, if_true, if_false, Nat.zero_add, Nat.lt_irrefl, Value.oneCell', gt_iff_lt, Nat.reduceLeDiff, Nat.lt_add_one, List.length_append, vSealSl, vMakeMap, vLookup, vMapUpd, vMapEnt, vEntSt, vRange, vEntry, KK.of, KK.av, lkRes, entry_last, vvar_3, vzero_3, vknd_3, vsn_3, vvar_4, vzero_4, vknd_4, vsn_4, vsl_22, vkn_22, vvar_22, vzero_22, vsl_44, vkn_44, vvar_44, vzero_44]; try simp (disch := omega) only [wrap64])
    | (with_reducible refine hK' _ ?_; clear hK' K')
    | (with_reducible refine hK _ ?_; clear hK K)
    | (with_reducible refine vcC_pure (eqInts_ac _ _ (by omega) (by omega) _) ?_)
    | (with_reducible refine vCall_pure (eqInts_ac _ _ (by omega) (by omega) _) ?_)
    | (with_reducible refine And.intro (And.intro rfl rfl) ?_)
    | (with_reducible refine And.intro (by omega) ?_)
    | (with_reducible refine And.intro (fun hg => ?_) (fun hg => ?_) <;> first | simp only [eq_false hg, decide_true, decide_false, and_true, true_and, and_false, false_and, not_true_eq_false, not_false_eq_true] | simp only [eq_true hg, decide_true, decide_false, and_true, true_and, and_false, false_and, not_true_eq_false, not_false_eq_true] | simp only [hg, decide_true, decide_false, and_true, true_and, and_false, false_and, not_true_eq_false, not_false_eq_true])
    | (with_reducible refine And.intro rfl (And.intro rfl rfl))
    | (with_reducible refine thenQ_n ?_)
    | (with_reducible refine thenQ_exit ?_)
    | (with_reducible refine thenQ_ret ?_)
    | (with_reducible refine midQ_ret ?_)
    | (with_reducible refine midQ_exit ?_)
    | (with_reducible refine blockQ_same ?_)
    | (with_reducible refine blockQ_ret ?_)
    | (with_reducible refine blockQ_n ?_)
    | (with_reducible refine AW.exit ?_)
    | (with_reducible refine AW.block ?_)
    | (with_reducible refine AW.cond_t rfl ?_)
    | (with_reducible refine AW.cond_f rfl ?_)
    | (with_reducible refine AW.cond_dec rfl (fun hc => ?_) (fun hc => ?_))
    | (with_reducible refine AW.cond rfl (fun hc => ?_) (fun hc => ?_) <;> try simp only [Bool.not_eq_eq_eq_not, Bool.not_true, Bool.not_false, decide_eq_true_eq, decide_eq_false_iff_not] at hc)
    | (with_reducible refine AW.seq ?_)
    | (with_reducible refine AW.skip ?_)
    | (with_reducible refine AW.ret ?_)
    | (with_reducible refine And.intro ?_ ?_)
    | (with_reducible intro hg; first | simp only [eq_false hg, decide_true, decide_false, and_true, true_and, and_false, false_and, not_true_eq_false, not_false_eq_true] | simp only [eq_true hg, decide_true, decide_false, and_true, true_and, and_false, false_and, not_true_eq_false, not_false_eq_true])
    | (with_reducible refine retQ_drop ?_; simp only [vRes, packRes, vLoad, vPart, lk, cond, Nat.reduceBEq, get_loc, getD_zero, getD_succ, true_and, List.length_cons, List.length_nil, Nat.reduceAdd, Nat.reduceLT, Nat.reduceLeDiff, List.take_succ_cons, List.take_zero, List.drop_succ_cons, List.drop_zero, vvar_3, vzero_3, vknd_3, vsn_3, vvar_4, vzero_4, vknd_4, vsn_4, vsl_22, vkn_22, vvar_22, vzero_22, vsl_44, vkn_44, vvar_44, vzero_44])
    )
  all_goals first
    | (refine ⟨_, _, FinOk.drop hB (Pl.ids (by (repeat' (first | exact Pl.v _ | exact Pl.junk | exact Pl.rd rfl _ | exact pl_nil | refine pl_cons ?_ ?_ | refine Pl.agg ?_ | refine Pl.tup ?_ | refine Pl.rp ?_ | refine Pl.fn ?_)); (first | done | fail))), ?_, rfl⟩
       refine v_bool ?_
       simp only [Bool.false_eq_true, false_iff]
       intro h; subst h; exact absurd rfl (by assumption))
    | (refine ⟨i + 1, ⟨by omega, fun j hj => ?_⟩, by omega, (Weak.slots (by repeat' first | exact trivial | exact ⟨rfl, trivial⟩ | refine ⟨rfl, ?_⟩))⟩
       by_cases e : j = i
       · subst e; first | assumption | (simp only [Decidable.not_not] at *; assumption)
       · exact hI j (by omega))
    | (refine ⟨_, _, FinOk.drop hB (Pl.ids (by (repeat' (first | exact Pl.v _ | exact Pl.junk | exact Pl.rd rfl _ | exact pl_nil | refine pl_cons ?_ ?_ | refine Pl.agg ?_ | refine Pl.tup ?_ | refine Pl.rp ?_ | refine Pl.fn ?_)); (first | done | fail))), ?_, rfl⟩
       refine v_bool ?_
       simp only [true_iff]
       exact list_extL a b hlen (fun j hj => hI j (by omega)))
end Go.Proofs.Ytdphlhplcmjepaa
end
section
set_option linter.unusedSimpArgs false
set_option linter.unusedVariables false
namespace Go.Proofs.Ytdphlhplcmjepaa
open Go.Eng
theorem getD_mem' {l : List Int} {i : Nat} (h : i < l.length) : l.getD i 0 ∈ l := by
  simp only [List.getD, List.getElem?_eq_getElem h, Option.getD_some]; exact List.getElem_mem h
theorem mem_getD {l : List Int} {x : Int} (h : x ∈ l) : ∃ i, i < l.length ∧ l.getD i 0 = x := by
  obtain ⟨i, hi, e⟩ := List.mem_iff_getElem.1 h
  exact ⟨i, hi, by simp only [List.getD, List.getElem?_eq_getElem hi, Option.getD_some]; exact e⟩
theorem take_snoc {l : List Int} {i : Nat} (h : i < l.length) : l.take (i + 1) = l.take i ++ [l.getD i 0] := by
  rw [List.take_add_one, List.getElem?_eq_getElem h]; simp [List.getD, h]
theorem takeL_snoc {l : Mz} {i : Nat} (h : i < l.length) : l.take (i + 1) = l.take i ++ [l.getD i []] := by
  rw [List.take_add_one, List.getElem?_eq_getElem h]; simp [List.getD, h]
theorem of_mem_take {l : List Int} {i : Nat} {x : Int} (h : x ∈ l.take i) : ∃ j, j < i ∧ j < l.length ∧ l.getD j 0 = x := by
  obtain ⟨j, hj, e⟩ := List.mem_iff_getElem.1 h
  have h1 : j < i ∧ j < l.length := by simp at hj; omega
  refine ⟨j, h1.1, h1.2, ?_⟩
  rw [← e]; simp [List.getD, h1.2]
theorem pw_at {l : List Int} (h : l.Pairwise (· < ·)) {i j : Nat} (hi : i < l.length) (hj : j < i) : l.getD j 0 < l.getD i 0 := by
  have hj' : j < l.length := by omega
  have := List.pairwise_iff_getElem.1 h j i hj' hi hj
  simpa [List.getD, hi, hj'] using this
theorem pw_step {l : List Int} {i : Nat} (hi : i < l.length) (h : (l.take i).Pairwise (· < ·)) (hs : 0 < i → l.getD (i - 1) 0 < l.getD i 0) : (l.take (i + 1)).Pairwise (· < ·) := by
  rw [take_snoc hi, List.pairwise_append]
  refine ⟨h, by simp, fun x hx y hy => ?_⟩
  rw [List.mem_singleton.1 hy]
  obtain ⟨j, h1, h2, rfl⟩ := of_mem_take hx
  have h3 := hs (by omega)
  rcases Nat.lt_or_ge j (i - 1) with h4 | h4
  · have h5 : i - 1 < (l.take i).length := by simp; omega
    have := pw_at h h5 h4
    have e1 : (l.take i).getD j 0 = l.getD j 0 := by simp [List.getD, show j < i by omega]
    have e2 : (l.take i).getD (i - 1) 0 = l.getD (i - 1) 0 := by simp [List.getD, show i - 1 < i by omega]
    rw [e1, e2] at this; omega
  · obtain rfl : j = i - 1 := by omega
    exact h3
theorem sorted_nodup {l : List Int} (h : l.Pairwise (· < ·)) : l.Nodup := h.imp (fun h => by omega)
/-! ### Positions -/
def pos (ns : List Int) (x : Int) : Nat := ns.idxOf x
theorem pos_lt {ns : List Int} {x : Int} (h : x ∈ ns) : pos ns x < ns.length := List.idxOf_lt_length_of_mem h
theorem pos_get {ns : List Int} {x : Int} (h : x ∈ ns) : ns.getD (pos ns x) 0 = x := by
  have := List.getElem_idxOf (pos_lt h)
  simp only [List.getD, List.getElem?_eq_getElem (pos_lt h), Option.getD_some]
  exact this
theorem getD_el {l : List Int} {i : Nat} (h : i < l.length) : l.getD i 0 = l[i] := by
  simp only [List.getD, List.getElem?_eq_getElem h, Option.getD_some]
theorem get_pos {ns : List Int} (hn : ns.Nodup) {i : Nat} (hi : i < ns.length) : pos ns (ns.getD i 0) = i := by
  have hm := getD_mem' hi
  have h2 := pos_lt hm
  have h1 := pos_get hm
  exact (List.getElem_inj (h₀ := h2) (h₁ := hi) hn).1 ((getD_el h2).symm.trans (h1.trans (getD_el hi)))
theorem pos_inj {ns : List Int} {x y : Int} (hx : x ∈ ns) (hy : y ∈ ns) (h : pos ns x = pos ns y) : x = y := by
  rw [← pos_get hx, ← pos_get hy, h]
theorem pos_mono {ns : List Int} (hs : ns.Pairwise (· < ·)) {x y : Int} (hx : x ∈ ns) (hy : y ∈ ns) : pos ns x < pos ns y ↔ x < y := by
  constructor
  · intro h
    have := pw_at hs (pos_lt hy) h
    rwa [pos_get hx, pos_get hy] at this
  · intro h
    rcases Nat.lt_or_ge (pos ns x) (pos ns y) with h1 | h1
    · exact h1
    · rcases Nat.lt_or_ge (pos ns y) (pos ns x) with h2 | h2
      · have := pw_at hs (pos_lt hx) h2
        rw [pos_get hx, pos_get hy] at this; omega
      · have := pos_inj hx hy (by omega); omega
/-! ### In which track -/
def placeFrom : Nat → Mz → Int → Int
  | _, [], _ => 0
  | s, l :: r, x => if x ∈ l then (s : Int) + 1 else placeFrom (s + 1) r x
theorem place_zero (x : Int) : ∀ (L : Mz) (s : Nat), placeFrom s L x = 0 ↔ ¬ x ∈ L.flatten
  | [], s => by simp [placeFrom]
  | l :: r, s => by
    unfold placeFrom
    rw [List.flatten_cons, List.mem_append]
    split
    · rename_i h
      constructor
      · intro h1; omega
      · intro h1; exact absurd (.inl h) h1
    · rename_i h
      rw [place_zero x r (s + 1)]
      constructor
      · rintro h1 (h2 | h2)
        · exact h h2
        · exact h1 h2
      · intro h1 h2; exact h1 (.inr h2)
theorem place_nonneg (x : Int) : ∀ (L : Mz) (s : Nat), 0 ≤ placeFrom s L x ∧ placeFrom s L x ≤ s + L.length
  | [], s => by simp [placeFrom]
  | l :: r, s => by
    have := place_nonneg x r (s + 1)
    unfold placeFrom
    split
    · simp only [List.length_cons]; push_cast; omega
    · simp only [List.length_cons] at *; push_cast at *; omega
theorem place_snoc (x : Int) (l : List Int) : ∀ (L : Mz) (s : Nat), placeFrom s (L ++ [l]) x = if x ∈ L.flatten then placeFrom s L x else if x ∈ l then ((s + L.length : Nat) : Int) + 1 else 0
  | [], s => by simp [placeFrom]
  | l' :: r, s => by
    rw [List.cons_append, placeFrom, placeFrom, List.flatten_cons, place_snoc x l r (s + 1)]
    by_cases h : x ∈ l'
    · simp [h]
    · simp only [h, if_false, List.mem_append, false_or]
      split
      · rfl
      · split
        · simp only [List.length_cons]; push_cast; omega
        · rfl
/-- In lists that have nothing in common, the place says which list. -/
theorem place_at {L : Mz} (hn : L.flatten.Nodup) {x : Int} {t : Nat} (ht : t < L.length) (hx : x ∈ L.getD t []) : ∀ s, placeFrom s L x = ((s + t : Nat) : Int) + 1 := by
  induction L generalizing t with
  | nil => simp at ht
  | cons l r ih =>
    intro s
    rw [List.flatten_cons, List.nodup_append] at hn
    unfold placeFrom
    cases t with
    | zero => rw [if_pos (by simpa using hx)]; rfl
    | succ t =>
      have hx' : x ∈ r.getD t [] := by simpa using hx
      have ht' : t < r.length := by simpa using ht
      have hr : x ∈ r.flatten := List.mem_flatten.2 ⟨r.getD t [], by simp only [List.getD, List.getElem?_eq_getElem ht', Option.getD_some]; exact List.getElem_mem ht', hx'⟩
      rw [if_neg (fun h => hn.2.2 x h x hr rfl), ih hn.2.1 ht' hx' (s + 1)]
      congr 1; push_cast; omega
theorem place_of {L : Mz} {x : Int} : ∀ (s : Nat), x ∈ L.flatten → ∃ t, t < L.length ∧ x ∈ L.getD t [] ∧ placeFrom s L x = ((s + t : Nat) : Int) + 1 := by
  induction L with
  | nil => intro s h; simp at h
  | cons l r ih =>
    intro s h
    unfold placeFrom
    by_cases hx : x ∈ l
    · exact ⟨0, by simp, by simpa using hx, by rw [if_pos hx]; rfl⟩
    · rw [List.flatten_cons, List.mem_append] at h
      obtain ⟨t, h1, h2, h3⟩ := ih (s + 1) (h.resolve_left hx)
      refine ⟨t + 1, by simpa using h1, by simpa using h2, ?_⟩
      rw [if_neg hx, h3]; congr 1; push_cast; omega
theorem mem_take_flat {L : Mz} {t s : Nat} {x : Int} (hs : s < t) (ht : s < L.length) (hx : x ∈ L.getD s []) : x ∈ (L.take t).flatten := by
  refine List.mem_flatten.2 ⟨L.getD s [], ?_, hx⟩
  have h : s < (L.take t).length := by simp; omega
  have : (L.take t)[s] = L.getD s [] := by simp [List.getD, ht]
  rw [← this]; exact List.getElem_mem h
theorem of_take_flat {L : Mz} {t : Nat} {x : Int} (hx : x ∈ (L.take t).flatten) : ∃ s, s < t ∧ s < L.length ∧ x ∈ L.getD s [] := by
  obtain ⟨l, h1, h2⟩ := List.mem_flatten.1 hx
  obtain ⟨s, hs, rfl⟩ := List.mem_iff_getElem.1 h1
  have h3 : s < t ∧ s < L.length := by simp at hs; omega
  refine ⟨s, h3.1, h3.2, ?_⟩
  have : (L.take t)[s] = L.getD s [] := by simp [List.getD, h3.2]
  rw [← this]; exact h2
theorem getL_mem {L : Mz} {t : Nat} (ht : t < L.length) : L.getD t [] ∈ L := by
  simp only [List.getD, List.getElem?_eq_getElem ht, Option.getD_some]; exact List.getElem_mem ht
theorem flat_split {L : Mz} {t : Nat} (ht : t < L.length) : L.flatten = (L.take t).flatten ++ (L.getD t [] ++ (L.drop (t + 1)).flatten) := by
  have h : L = L.take t ++ (L.getD t [] :: L.drop (t + 1)) := by
    have e : L.drop t = L.getD t [] :: L.drop (t + 1) := by
      rw [List.drop_eq_getElem_cons ht]; simp [List.getD, ht]
    rw [← e, List.take_append_drop]
  conv => lhs; rw [h]
  rw [List.flatten_append, List.flatten_cons]
/-- What a right list of tracks says of the first i numbers of the track t. -/
theorem once_at {L : Mz} (hn : L.flatten.Nodup) {t i : Nat} (ht : t < L.length) (hi : i < (L.getD t []).length) : ¬ (L.getD t []).getD i 0 ∈ (L.take t).flatten ++ (L.getD t []).take i := by
  rw [flat_split ht] at hn
  have h1 := List.nodup_append.1 hn
  have h2 := List.nodup_append.1 h1.2.1
  intro hx
  rcases List.mem_append.1 hx with hx | hx
  · exact h1.2.2 _ hx _ (List.mem_append.2 (.inl (getD_mem' hi))) rfl
  · have h3 : ((L.getD t []).take (i + 1)).Nodup := h2.1.sublist (List.take_sublist _ _)
    rw [take_snoc hi, List.nodup_append] at h3
    exact h3.2.2 _ hx _ (List.mem_singleton.2 rfl) rfl
theorem flat_snoc {L : Mz} {t : Nat} (ht : t < L.length) : (L.take (t + 1)).flatten = (L.take t).flatten ++ L.getD t [] := by
  rw [takeL_snoc ht, List.flatten_append]; simp
/-- The tracks' numbers, as a list of places. -/
def atR (ns : List Int) (L : Mz) : List Int := ns.map (placeFrom 0 L)
theorem atR_len (ns : List Int) (L : Mz) : (atR ns L).length = ns.length := by simp [atR]
theorem atR_get {ns : List Int} {L : Mz} {k : Nat} (hk : k < ns.length) : (atR ns L).getD k 0 = placeFrom 0 L (ns.getD k 0) := by
  simp [atR, List.getD, hk]
theorem atR_nil (ns : List Int) : atR ns [] = List.replicate ns.length 0 := by
  unfold atR
  apply List.ext_getElem (by simp)
  intro i h1 h2; simp [placeFrom]
theorem atR_new {ns : List Int} {L : Mz} : atR ns (L ++ [[]]) = atR ns L := by
  unfold atR
  refine List.map_congr_left fun x _ => ?_
  rw [place_snoc]
  split
  · rfl
  · rename_i h; rw [(place_zero x L 0).2 h]; simp
theorem atR_set {ns : List Int} (hn : ns.Nodup) {L : Mz} {l : List Int} {x : Int} {k : Nat} (hk : k < ns.length) (hx : ns.getD k 0 = x) (hne : ¬ x ∈ L.flatten ++ l) :
    (atR ns (L ++ [l])).set k ((L.length : Int) + 1) = atR ns (L ++ [l ++ [x]]) := by
  apply List.ext_getElem (by simp [atR])
  intro j h1 h2
  have hj : j < ns.length := by simpa [atR] using h2
  rw [List.getElem_set]
  have e2 : (atR ns (L ++ [l ++ [x]]))[j] = placeFrom 0 (L ++ [l ++ [x]]) ns[j] := by simp [atR]
  rw [e2, place_snoc]
  simp only [List.mem_append, not_or] at hne
  by_cases e : k = j
  · subst e
    have hx' : ns[k] = x := by rw [← hx]; simp [List.getD, hk]
    rw [if_pos rfl, hx', if_neg hne.1, if_pos (by simp)]
    simp
  · have hx' : ¬ ns[j] = x := fun h => e (by
      have e3 : ns[k] = ns[j] := by rw [h, ← hx]; simp [List.getD, hk]
      exact (List.getElem_inj hn).1 e3)
    rw [if_neg e]
    have e1 : (atR ns (L ++ [l]))[j]'(by simpa [atR] using hj) = placeFrom 0 (L ++ [l]) ns[j] := by simp [atR]
    rw [e1, place_snoc]
    simp [List.mem_append, hx']
end Go.Proofs.Ytdphlhplcmjepaa
end
section
set_option linter.unusedSimpArgs false
set_option linter.unusedVariables false
namespace Go.Proofs.Ytdphlhplcmjepaa
open Go.Eng
theorem flat_sub {ns : List Int} {tr : Mz} (h : ∀ l ∈ tr, l ≠ [] ∧ l.Pairwise (· < ·) ∧ ∀ x ∈ l, x ∈ ns) : ∀ x ∈ tr.flatten, x ∈ ns := fun x hx => by
  obtain ⟨l, h1, h2⟩ := List.mem_flatten.1 hx
  exact (h l h1).2.2 x h2
theorem Good.len {ns : List Int} {AP AB : Int → Int → Prop} {tr : Mz} (h : Good ns AP AB tr) (hn : ns.Nodup) : tr.flatten.length = ns.length :=
  (nodup_all h.once (flat_sub h.rows) hn).2 h.all
theorem Good.pairs {ns : List Int} {AP AB : Int → Int → Prop} {tr : Mz} (h : Good ns AP AB tr) {x y : Int} (hx : x ∈ ns) (hy : y ∈ ns) :
    ¬ (AP x y ∧ placeFrom 0 tr x = placeFrom 0 tr y) ∧ ¬ (AB x y ∧ placeFrom 0 tr y ≤ placeFrom 0 tr x) := by
  obtain ⟨t, t1, t2, t3⟩ := place_of 0 (h.all x hx)
  obtain ⟨s, s1, s2, s3⟩ := place_of 0 (h.all y hy)
  rw [t3, s3]
  constructor
  · rintro ⟨h1, h2⟩
    obtain rfl : t = s := by omega
    exact h.apart _ (getL_mem t1) x t2 y s2 h1
  · rintro ⟨h1, h2⟩
    have h3 := h.above s s1 y s2 x hx h1
    obtain ⟨q, q1, q2, q3⟩ := of_take_flat h3
    have h4 := place_at h.once q2 q3 0
    rw [t3] at h4
    omega
theorem good_of_pairs {ns : List Int} (hn : ns.Nodup) {AP AB : Int → Int → Prop} {tr : Mz} (h1 : ∀ l ∈ tr, l ≠ [] ∧ l.Pairwise (· < ·) ∧ ∀ x ∈ l, x ∈ ns) (h2 : tr.flatten.Nodup) (h3 : tr.flatten.length = ns.length)
    (hp : ∀ x ∈ ns, ∀ y ∈ ns, ¬ (AP x y ∧ placeFrom 0 tr x = placeFrom 0 tr y) ∧ ¬ (AB x y ∧ placeFrom 0 tr y ≤ placeFrom 0 tr x)) : Good ns AP AB tr := by
  have hall := (nodup_all h2 (flat_sub h1) hn).1 h3
  refine ⟨h1, h2, hall, fun l hl x hx y hy hap => ?_, fun t ht y hy x hx hab => ?_⟩
  · obtain ⟨t, ht, rfl⟩ := List.mem_iff_getElem.1 hl
    have e : tr.getD t [] = tr[t] := by simp [List.getD, ht]
    rw [← e] at hx hy
    have p1 := place_at h2 ht hx 0
    have p2 := place_at h2 ht hy 0
    exact (hp x ((h1 _ hl).2.2 x (e ▸ hx)) y ((h1 _ hl).2.2 y (e ▸ hy))).1 ⟨hap, by rw [p1, p2]⟩
  · have hyn := (h1 _ (getL_mem ht)).2.2 y hy
    have p1 := place_at h2 ht hy 0
    obtain ⟨s, s1, s2, s3⟩ := place_of 0 (hall x hx)
    have := (hp x hx y hyn).2
    rw [p1, s3] at this
    have hlt : s < t := by
      rcases Nat.lt_or_ge s t with h | h
      · exact h
      · exact absurd ⟨hab, by omega⟩ this
    exact mem_take_flat hlt s1 s2
/-- Of a right list of tracks, what the other way looks at. -/
theorem Good.at {ns : List Int} {AP AB : Int → Int → Prop} {tr : Mz} (h : Good ns AP AB tr) {t : Nat} (ht : t < tr.length) : tr.getD t [] ≠ [] ∧ (tr.getD t []).Pairwise (· < ·) ∧ ∀ x ∈ tr.getD t [], x ∈ ns := h.rows _ (getL_mem ht)
/-! ### Masks -/
/-- Positions of a list's numbers. -/
def ps (ns l : List Int) : List Nat := l.map (pos ns)
theorem ps_lt {ns l : List Int} (h : ∀ x ∈ l, x ∈ ns) : ∀ k ∈ ps ns l, k < ns.length := fun k hk => by
  obtain ⟨x, h1, rfl⟩ := List.mem_map.1 hk
  exact pos_lt (h x h1)
theorem ps_mem {ns l : List Int} (h : ∀ x ∈ l, x ∈ ns) {x : Int} (hx : x ∈ ns) : pos ns x ∈ ps ns l ↔ x ∈ l := by
  constructor
  · intro hk
    obtain ⟨y, h1, h2⟩ := List.mem_map.1 hk
    exact pos_inj (h y h1) hx h2 ▸ h1
  · intro h1; exact List.mem_map.2 ⟨x, h1, rfl⟩
theorem ps_mem' {ns l : List Int} (hn : ns.Nodup) (h : ∀ x ∈ l, x ∈ ns) {i : Nat} (hi : i < ns.length) : i ∈ ps ns l ↔ ns.getD i 0 ∈ l := by
  have := ps_mem h (getD_mem' hi)
  rwa [get_pos hn hi] at this
def msk (ns l : List Int) : Nat := bitsOf (ps ns l)
theorem msk_lt {ns l : List Int} (h : ∀ x ∈ l, x ∈ ns) : msk ns l < 2 ^ ns.length := bitsOf_lt (ps_lt h)
theorem msk_snoc (ns l : List Int) (x : Int) : msk ns (l ++ [x]) = msk ns l ||| 2 ^ pos ns x := by
  unfold msk ps
  rw [List.map_append, List.map_cons, List.map_nil, bitsOf_snoc]
theorem msk_app (ns a b : List Int) : msk ns (a ++ b) = msk ns a ||| msk ns b := by
  unfold msk ps
  rw [List.map_append, bitsOf_append]
theorem msk_bit {ns l : List Int} (hn : ns.Nodup) (h : ∀ x ∈ l, x ∈ ns) {i : Nat} : (msk ns l).testBit i = true ↔ i < ns.length ∧ ns.getD i 0 ∈ l := by
  unfold msk
  rw [testBit_bitsOf, decide_eq_true_eq]
  constructor
  · intro hk
    have hi := ps_lt h i hk
    exact ⟨hi, (ps_mem' hn h hi).1 hk⟩
  · intro ⟨hi, hx⟩; exact (ps_mem' hn h hi).2 hx
theorem msk_zero {ns l : List Int} : msk ns l = 0 ↔ l = [] := by
  unfold msk; rw [bitsOf_zero]; unfold ps; simp
theorem msk_all {ns l : List Int} (hn : ns.Nodup) (h : ∀ x ∈ l, x ∈ ns) : msk ns l = 2 ^ ns.length - 1 ↔ ∀ x ∈ ns, x ∈ l := by
  unfold msk
  rw [bitsOf_all (ps_lt h)]
  constructor
  · intro hall x hx; exact (ps_mem h hx).1 (hall _ (pos_lt hx))
  · intro hall k hk; exact (ps_mem' hn h hk).2 (hall _ (getD_mem' hk))
/-- Rows of bits that stand for a relation. -/
def Rel (ns : List Int) (R : Int → Int → Prop) (ms : List Int) : Prop := ms.length = ns.length ∧ ∀ k, k < ns.length → ∃ m : Nat, ms.getD k 0 = (m : Int) ∧ m < 2 ^ ns.length ∧ ∀ j, m.testBit j = true ↔ j < ns.length ∧ R (ns.getD k 0) (ns.getD j 0)
/-- Rows of yes and no that stand for a relation. -/
def RelM (ns : List Int) (R : Int → Int → Prop) (ms : List (List Bool)) : Prop := ms.length = ns.length ∧ ∀ k, k < ns.length → (ms.getD k []).length = ns.length ∧ ∀ j, j < ns.length → ((ms.getD k []).getD j false = true ↔ R (ns.getD k 0) (ns.getD j 0))
end Go.Proofs.Ytdphlhplcmjepaa
end
section
set_option linter.unusedSimpArgs false
set_option linter.unusedVariables false
set_option maxHeartbeats 1000000
namespace Go.Proofs.Ytdphlhplcmjepaa
open Go.Eng
theorem netsTo_sorted (c : Ch) : ∀ n, (netsTo c n).Pairwise (· < ·)
  | 0 => List.Pairwise.nil
  | n + 1 => by
    unfold netsTo
    split
    · rw [List.pairwise_append]
      refine ⟨netsTo_sorted c n, by simp, fun x hx y hy => ?_⟩
      have := netsTo_mem c n x hx
      rw [List.mem_singleton.1 hy]; omega
    · exact netsTo_sorted c n
theorem nets_sorted (c : Ch) : (nets c).Pairwise (· < ·) := netsTo_sorted c 12
theorem nets_nodup (c : Ch) : (nets c).Nodup := sorted_nodup (nets_sorted c)
/-- Two nets that may not share a track. -/
def Apart (c : Ch) (x y : Int) : Prop := ¬ x = y ∧ (span c x).1 ≤ (span c y).2 ∧ (span c y).1 ≤ (span c x).2
instance (c : Ch) (x y : Int) : Decidable (Apart c x y) := by unfold Apart; exact inferInstance
/-- A relation, in rows. -/
def relRow (ns : List Int) (R : Int → Int → Prop) [∀ x y, Decidable (R x y)] (x : Int) : List Bool := ns.map fun y => decide (R x y)
def relM (ns : List Int) (R : Int → Int → Prop) [∀ x y, Decidable (R x y)] : List (List Bool) := ns.map (relRow ns R)
theorem relRow_len (ns : List Int) (R : Int → Int → Prop) [∀ x y, Decidable (R x y)] (x : Int) : (relRow ns R x).length = ns.length := by simp [relRow]
theorem relRow_get {ns : List Int} {R : Int → Int → Prop} [∀ x y, Decidable (R x y)] {x : Int} {k : Nat} (hk : k < ns.length) : (relRow ns R x).getD k false = decide (R x (ns.getD k 0)) := by
  simp [relRow, List.getD, hk]
theorem relM_len (ns : List Int) (R : Int → Int → Prop) [∀ x y, Decidable (R x y)] : (relM ns R).length = ns.length := by simp [relM]
theorem relM_get {ns : List Int} {R : Int → Int → Prop} [∀ x y, Decidable (R x y)] {k : Nat} (hk : k < ns.length) : (relM ns R).getD k [] = relRow ns R (ns.getD k 0) := by
  simp [relM, List.getD, hk]
theorem relM_ok (ns : List Int) (R : Int → Int → Prop) [∀ x y, Decidable (R x y)] : RelM ns R (relM ns R) :=
  ⟨relM_len ns R, fun k hk => by
    rw [relM_get hk]
    exact ⟨relRow_len ns R _, fun j hj => by rw [relRow_get hj, decide_eq_true_eq]⟩⟩
theorem getC {H l : List ABox} {kc : Nat} {X : ABox} (h : H[kc]? = some X) : (H ++ l)[kc]? = some X := by
  rw [List.getElem?_append_left (List.getElem?_eq_some_iff.1 h).1]; exact h
theorem lentC {H : List ABox} {c : Ch} {kc : Nat} (h : H[kc]? = some (.box false [.rd (.int .i64) c.1, .rd (.int .i64) c.2])) : LentV H (.ptr 1 kc 0 0) (.rp [.rd (.int .i64) (c).1, .rd (.int .i64) (c).2] 0) := .box h rfl (fun i _ => .same _)
theorem nets57p_ac (c : Ch) (hx : c.1.length ≤ 2000000) (hy : c.2.length = c.1.length) {H : List ABox} {kc : Nat} (h : H[kc]? = some (.box false [.rd (.int .i64) c.1, .rd (.int .i64) c.2])) :
    AC Try.prog 57 [.ptr 1 kc 0 0] H (fun r H' => r = .sl 1 H.length 0 (nets c).length ∧ H' = H ++ [.row false (.int .i64) (nets c)]) := AC.lentN (args' := [.rp [.rd (.int .i64) (c).1, .rd (.int .i64) (c).2] 0]) (by simp only [killAll_length]) ⟨lentC h, trivial⟩ (by (repeat' (first | exact NoRd.v _ | exact NoRd.sl | exact NoRd.mp | exact NoRd.tup nord_nil | refine NoRd.tup ?_ | refine NoRd.agg ?_ | exact nord_nil | refine nord_cons ?_ ?_)); (first | done | fail)) (by (repeat' (first | exact nordW_nil | refine nordW_cons ?_ ?_ | exact And.intro rfl rfl | exact trivial)); (first | done | fail)) (nets57_ac c hx hy _)
/-- A row being filled. -/
def fillB (xs : List Bool) (k : Nat) : List Bool := xs.take k ++ List.replicate (xs.length - k) false
theorem fillB_len {xs : List Bool} {k : Nat} (h : k ≤ xs.length) : (fillB xs k).length = xs.length := by simp [fillB]; omega
theorem fillB_zero (xs : List Bool) : fillB xs 0 = List.replicate xs.length false := by simp [fillB]
theorem fillB_set {xs : List Bool} {k : Nat} (h : k < xs.length) {b : Bool} (hb : b = xs.getD k false) : (fillB xs k).set k b = fillB xs (k + 1) := by
  rw [hb]; exact fill_set xs false h
theorem fillB_all (xs : List Bool) : fillB xs xs.length = xs := by simp [fillB]
theorem bool_dec {b : Bool} {p : Prop} [Decidable p] (h : b = true ↔ p) : b = decide p := by
  by_cases hp : p
  · rw [decide_eq_true hp, h.2 hp]
  · rw [decide_eq_false hp]
    cases b
    · rfl
    · exact absurd (h.1 rfl) hp
theorem fillB_done {xs : List Bool} {k : Nat} (h : k = xs.length) : fillB xs k = xs := by rw [h, fillB_all]
end Go.Proofs.Ytdphlhplcmjepaa
end
section
set_option linter.unusedSimpArgs false
set_option linter.unusedVariables false
namespace Go.Proofs.Ytdphlhplcmjepaa
open Go.Eng
/-- The pieces of one net, of which the columns are given. -/
def pairsL (n : Int) : List Int → Mz
  | [] => []
  | [_] => []
  | a :: b :: r => [n, a, b] :: pairsL n (b :: r)
theorem pairsL_snoc (n x : Int) : ∀ (l : List Int), l ≠ [] → pairsL n (l ++ [x]) = pairsL n l ++ [[n, l.getD (l.length - 1) 0, x]]
  | [], h => absurd rfl h
  | [a], _ => rfl
  | a :: b :: r, _ => by
    have ih := pairsL_snoc n x (b :: r) (by simp)
    show [n, a, b] :: pairsL n ((b :: r) ++ [x]) = _
    rw [ih]
    show _ = ([n, a, b] :: pairsL n (b :: r)) ++ _
    simp
theorem pairsL_len (n : Int) : ∀ (l : List Int), (pairsL n l).length = l.length - 1
  | [] => rfl
  | [a] => rfl
  | a :: b :: r => by
    have ih := pairsL_len n (b :: r)
    show (pairsL n (b :: r)).length + 1 = _
    rw [ih]; simp
theorem pairsL_mem {n : Int} : ∀ {l : List Int} {p : List Int}, p ∈ pairsL n l → ∃ a b, p = [n, a, b] ∧ a ∈ l ∧ b ∈ l
  | [], p, h => by cases h
  | [a], p, h => by cases h
  | a :: b :: r, p, h => by
    have h' : p ∈ [n, a, b] :: pairsL n (b :: r) := h
    rcases List.mem_cons.1 h' with rfl | h'
    · exact ⟨a, b, rfl, by simp, by simp⟩
    · obtain ⟨x, y, e, hx, hy⟩ := pairsL_mem h'
      exact ⟨x, y, e, List.mem_cons_of_mem _ hx, List.mem_cons_of_mem _ hy⟩
/-- The pieces of the first i nets; of all. -/
def piecesTo (c : Ch) (i : Nat) : Mz := ((nets c).take i).flatMap fun n => pairsL n (cols c n)
def pieces (c : Ch) : Mz := piecesTo c (nets c).length
theorem piecesTo_zero (c : Ch) : piecesTo c 0 = [] := by simp [piecesTo]
theorem piecesTo_succ (c : Ch) {i : Nat} (h : i < (nets c).length) : piecesTo c (i + 1) = piecesTo c i ++ pairsL ((nets c).getD i 0) (cols c ((nets c).getD i 0)) := by
  unfold piecesTo
  rw [take_snoc h, List.flatMap_append]
  simp
theorem colsTo_mem (c : Ch) (net : Int) : ∀ (i : Nat), ∀ x ∈ colsTo c net i, 0 ≤ x ∧ x < i
  | 0, x, h => by simp [colsTo] at h
  | i + 1, x, h => by
    have ih := colsTo_mem c net i
    unfold colsTo at h
    split at h
    · rcases List.mem_append.1 h with h | h
      · have := ih x h; omega
      · rw [List.mem_singleton.1 h]; omega
    · have := ih x h; omega
/-- In how many columns some nets are. -/
def colSum (c : Ch) (ns : List Int) (i : Nat) : Nat := (ns.map fun n => (colsTo c n i).length).sum
theorem colSum_step (c : Ch) (i : Nat) : ∀ (ns : List Int), colSum c ns (i + 1) ≤ colSum c ns i + (ns.count (c.1.getD i 0) + ns.count (c.2.getD i 0))
  | [] => by simp [colSum]
  | n :: r => by
    have ih := colSum_step c i r
    unfold colSum at ih ⊢
    simp only [List.map_cons, List.sum_cons, List.count_cons]
    have h1 : (colsTo c n (i + 1)).length ≤ (colsTo c n i).length + ((if (n == c.1.getD i 0) = true then 1 else 0) + (if (n == c.2.getD i 0) = true then 1 else 0)) := by
      conv => lhs; unfold colsTo
      split
      · rename_i h
        rw [List.length_append, List.length_singleton]
        rcases h with h | h
        · rw [if_pos (beq_iff_eq.2 h.symm)]; omega
        · rw [if_pos (c := (n == c.2.getD i 0) = true) (beq_iff_eq.2 h.symm)]; omega
      · omega
    omega
theorem sum_zero : ∀ (ns : List Int), (ns.map fun _ => 0).sum = 0
  | [] => rfl
  | n :: r => by simp [sum_zero r]
theorem colSum_le (c : Ch) {ns : List Int} (hn : ns.Nodup) : ∀ (i : Nat), colSum c ns i ≤ 2 * i
  | 0 => by
    unfold colSum
    have : (ns.map fun n => (colsTo c n 0).length) = ns.map fun _ => 0 := rfl
    rw [this, sum_zero]; omega
  | i + 1 => by
    have ih := colSum_le c hn i
    have h1 := colSum_step c i ns
    have h2 := List.nodup_iff_count.1 hn (c.1.getD i 0)
    have h3 := List.nodup_iff_count.1 hn (c.2.getD i 0)
    omega
theorem pieces_len_sum (c : Ch) : ∀ (ns : List Int), (ns.flatMap fun n => pairsL n (cols c n)).length ≤ colSum c ns c.1.length
  | [] => by simp
  | n :: r => by
    have ih := pieces_len_sum c r
    unfold colSum at ih ⊢
    simp only [List.flatMap_cons, List.length_append, List.map_cons, List.sum_cons, pairsL_len]
    have : (cols c n).length = (colsTo c n c.1.length).length := rfl
    omega
theorem pieces_len (c : Ch) (hn : (nets c).Nodup) : (pieces c).length ≤ 2 * c.1.length := by
  have h1 := pieces_len_sum c (nets c)
  have h2 := colSum_le c hn c.1.length
  unfold pieces piecesTo
  rw [List.take_length]; omega
/-- Three numbers: a net, and two of its columns. -/
def PieceIs (c : Ch) (p : List Int) : Prop := p.length = 3 ∧ p.getD 0 0 ∈ nets c ∧ (0 ≤ p.getD 1 0 ∧ p.getD 1 0 < c.1.length) ∧ 0 ≤ p.getD 2 0 ∧ p.getD 2 0 < c.1.length
theorem piece_is (c : Ch) {p : List Int} (h : p ∈ pieces c) : PieceIs c p := by
  unfold pieces piecesTo at h
  rw [List.take_length] at h
  obtain ⟨n, hn, hp⟩ := List.mem_flatMap.1 h
  obtain ⟨a, b, rfl, ha, hb⟩ := pairsL_mem hp
  exact ⟨rfl, hn, colsTo_mem c n _ a ha, colsTo_mem c n _ b hb⟩
theorem piece_at (c : Ch) {i : Nat} (h : i < (pieces c).length) : PieceIs c ((pieces c).getD i []) := by
  refine piece_is c ?_
  simp only [List.getD, List.getElem?_eq_getElem h, Option.getD_some]; exact List.getElem_mem h
/-- Two pieces that may not share a track; one that must be above another one. -/
def PA (p q : List Int) : Prop := p.getD 0 0 ≠ q.getD 0 0 ∧ p.getD 1 0 ≤ q.getD 2 0 ∧ q.getD 1 0 ≤ p.getD 2 0
instance (p q : List Int) : Decidable (PA p q) := by unfold PA; exact inferInstance
def PB (c : Ch) (p q : List Int) : Prop := p.getD 0 0 ≠ q.getD 0 0 ∧ ∃ a : Nat, (p.getD 1 0 ≤ a ∧ a ≤ p.getD 2 0) ∧ (q.getD 1 0 ≤ a ∧ a ≤ q.getD 2 0) ∧ c.1.getD a 0 = p.getD 0 0 ∧ c.2.getD a 0 = q.getD 0 0
noncomputable instance (c : Ch) (p q : List Int) : Decidable (PB c p q) := Classical.propDecidable _
/-- The names of n pieces. -/
def idx (n : Nat) : List Int := (List.range n).map fun k : Nat => (k : Int)
theorem idx_len (n : Nat) : (idx n).length = n := by simp [idx]
theorem idx_get {n i : Nat} (h : i < n) : (idx n).getD i 0 = (i : Int) := by simp [idx, List.getD, h]
theorem idx_snoc (n : Nat) : idx (n + 1) = idx n ++ [(n : Int)] := by simp [idx, List.range_succ]
theorem idx_pw (n : Nat) : (idx n).Pairwise (· < ·) := by
  induction n with
  | zero => simp [idx]
  | succ n ih =>
    rw [idx_snoc, List.pairwise_append]
    refine ⟨ih, by simp, fun x hx y hy => ?_⟩
    obtain ⟨j, hj, rfl⟩ := List.mem_map.1 hx
    have := List.mem_range.1 hj
    rw [List.mem_singleton.1 hy]; omega
def AP (c : Ch) (x y : Int) : Prop := PA ((pieces c).getD x.toNat []) ((pieces c).getD y.toNat [])
instance (c : Ch) (x y : Int) : Decidable (AP c x y) := by unfold AP; exact inferInstance
def AB (c : Ch) (x y : Int) : Prop := PB c ((pieces c).getD x.toNat []) ((pieces c).getD y.toNat [])
noncomputable instance (c : Ch) (x y : Int) : Decidable (AB c x y) := Classical.propDecidable _
theorem AP_sym (c : Ch) (x y : Int) (h : AP c x y) : AP c y x := ⟨fun e => h.1 e.symm, h.2.2, h.2.1⟩
theorem AP_irr (c : Ch) (x : Int) : ¬ AP c x x := fun h => h.1 rfl
end Go.Proofs.Ytdphlhplcmjepaa
end
section
set_option linter.unusedSimpArgs false
set_option linter.unusedVariables false
set_option maxHeartbeats 1000000
namespace Go.Proofs.Ytdphlhplcmjepaa
open Go.Eng
/-- The last number of a list; -1 of none. -/
def lastC (l : List Int) : Int := if l = [] then -1 else l.getD (l.length - 1) 0
theorem lastC_snoc (l : List Int) (x : Int) : lastC (l ++ [x]) = x := by
  unfold lastC
  rw [if_neg (by simp)]
  simp [List.getD]
theorem lastC_ne {l : List Int} (h : l ≠ []) : lastC l = l.getD (l.length - 1) 0 := if_neg h
/-- The pieces known when k columns of the i-th net are looked at. -/
def pcs (c : Ch) (i k : Nat) : Mz := piecesTo c i ++ pairsL ((nets c).getD i 0) (colsTo c ((nets c).getD i 0) k)
theorem pcs_zero (c : Ch) (i : Nat) : pcs c i 0 = piecesTo c i := by simp [pcs, colsTo, pairsL]
theorem pcs_all (c : Ch) {i : Nat} (h : i < (nets c).length) : pcs c i c.1.length = piecesTo c (i + 1) := by
  rw [piecesTo_succ c h]; rfl
theorem pcs_skip {c : Ch} {i k : Nat} (h : ¬ HasC c ((nets c).getD i 0) k) : pcs c i (k + 1) = pcs c i k := by
  unfold pcs
  rw [show colsTo c ((nets c).getD i 0) (k + 1) = colsTo c ((nets c).getD i 0) k by rw [colsTo, if_neg h]]
theorem cols_at {c : Ch} {n : Int} {k : Nat} (h : HasC c n k) : colsTo c n (k + 1) = colsTo c n k ++ [(k : Int)] := by rw [colsTo, if_pos h]
theorem cols_skip {c : Ch} {n : Int} {k : Nat} (h : ¬ HasC c n k) : colsTo c n (k + 1) = colsTo c n k := by rw [colsTo, if_neg h]
theorem pcs_first {c : Ch} {i k : Nat} (h : HasC c ((nets c).getD i 0) k) (h0 : colsTo c ((nets c).getD i 0) k = []) : pcs c i (k + 1) = pcs c i k := by
  unfold pcs
  rw [cols_at h, h0]; rfl
theorem pcs_next {c : Ch} {i k : Nat} (h : HasC c ((nets c).getD i 0) k) (h0 : colsTo c ((nets c).getD i 0) k ≠ []) :
    pcs c i (k + 1) = pcs c i k ++ [[(nets c).getD i 0, lastC (colsTo c ((nets c).getD i 0) k), (k : Int)]] := by
  unfold pcs
  rw [cols_at h, pairsL_snoc _ _ _ h0, lastC_ne h0, List.append_assoc]
theorem lastC_rng (c : Ch) (n : Int) (k : Nat) (h : colsTo c n k ≠ []) : 0 ≤ lastC (colsTo c n k) ∧ lastC (colsTo c n k) < k := by
  rw [lastC_ne h]
  have hl := List.length_pos_iff.2 h
  exact colsTo_mem c n k _ (getD_mem' (by omega))
theorem piecesTo_le {c : Ch} (hx : c.1.length ≤ 1000) : ∀ (i : Nat), i ≤ (nets c).length → (piecesTo c i).length ≤ 1000 * i
  | 0, _ => by rw [piecesTo_zero]; simp
  | i + 1, h => by
    have ih := piecesTo_le hx i (by omega)
    have h1 := colsTo_len c ((nets c).getD i 0) c.1.length
    rw [piecesTo_succ c (by omega), List.length_append, pairsL_len]
    unfold cols
    omega
theorem pcs_le {c : Ch} (hx : c.1.length ≤ 1000) {i k : Nat} (hi : i ≤ (nets c).length) : (pcs c i k).length ≤ 1000 * i + k := by
  have h1 := piecesTo_le hx i hi
  have h2 := colsTo_len c ((nets c).getD i 0) k
  unfold pcs
  rw [List.length_append, pairsL_len]
  omega
theorem get_base {N : Nat} {s : List (Nat × AVal)} {H l : List ABox} {kc : Nat} {X : ABox} (h : H[kc]? = some X) : St.get ⟨N, s, H, l⟩ kc = X := by
  unfold St.get
  simp only [List.getD]
  rw [List.getElem?_append_left (List.getElem?_eq_some_iff.1 h).1, h]; rfl
theorem pieces64p_ac (c : Ch) (hx : c.1.length ≤ 1000) (hy : c.2.length = c.1.length) {H : List ABox} {kc : Nat} (hkc : H[kc]? = some (.box false [.rd (.int .i64) c.1, .rd (.int .i64) c.2])) : AC Try.prog 64 [.ptr 1 kc 0 0] H (fun r H' => r = .sl 1 H.length 0 (pieces c).length ∧ H' = H ++ [.row false (.sli .i64) (pieces c)]) := by
  have hn := nets_len c
  have hkl : kc < H.length := (List.getElem?_eq_some_iff.1 hkc).1
  have hgb : ∀ N s l, St.get ⟨N, s, H, l⟩ kc = .box false [.rd (.int .i64) c.1, .rd (.int .i64) c.2] := fun N s l => get_base hkc
  refine AC.enter envOk Try.func64 rfl (by decide) Try.ntmps64 Try.results64 (by simp) fun hB => ?_
  repeat' (first
    | (with_reducible refine AW.sreg envOk fun K hK => ?_)
    | (with_reducible refine AW.region envOk fun K hK => ?_)
    | (with_reducible refine AW.d0reg envOk mixed ?_ ?_ fun K hK => ?_; (first | rfl | exact base_len | exact base_len0); kernel_rfl)
    | (with_reducible refine AW.d0 envOk mixed ?_ ?_ fun K hK => ?_; (first | rfl | exact base_len | exact base_len0); kernel_rfl)
    | (with_reducible refine vcD_nil ?_)
    | (with_reducible refine vcL_nil ?_)
    | (with_reducible (first | refine vcD_cons fun K' hK' => ?_ | refine vcL_cons fun K' hK' => ?_); simp only [isC, Bool.false_or, Bool.or_true, vAppend, elems, ↓reduceDIte, List.take_length, Nat.le_refl, List.drop_zero, vGuard, undef, Bool.not_eq_eq_eq_not, dstOk, vcOp, vcF, isPure, putS, vcCall, St.ev, St.put, lk, AVal.ofVal, initS, Nat.reduceLT, true_and, and_true, vBin, vUn, vPick, vConv, vPart, vLoad, vStore, vIdxA, vIdx, vFldA, vExt, vLen, vMin, vNil, vAlloc, vBox, vBuild, vBuildSl, vMake, vSlice, bnd, partsA, fillA, decAll, AVal.flat, AVal.cell, cellsOk, setRange, ETy.enc, ETy.dec, ETy.sz, ETy.d, cond, Nat.reduceBEq, Nat.reduceAdd, Int.toNat_natCast, List.length_set, List.length_append, List.length_replicate, List.length_take, Nat.reduceSub, Nat.reduceEqDiff, get_loc, setBox_loc, next_eq, List.length_cons, List.length_nil, List.map_cons, List.map_nil, List.append_nil, List.nil_append, List.cons_append, List.set_cons_zero, List.set_cons_succ, getD_zero, getD_succ, List.getElem?_cons_succ, List.getElem?_cons_zero, List.take_succ_cons, List.take_zero, List.drop_succ_cons, List.drop_zero, List.all_cons, List.all_nil, Bool.and_true, Bool.true_and, Option.bind_some, Option.map_some, Option.map_none, decide_eq_true_eq, decide_eq_false_iff_not, ne_eq, Bool.not_eq_true, Bool.not_eq_false, Decidable.not_not, not_true_eq_false, not_false_eq_true, forall_const, false_implies, Bool.true_eq_false, Bool.false_eq_true, reduceCtorEq, decide_true, decide_false, Bool.not_true, Bool.not_false, if_true, if_false, Nat.zero_add, Nat.lt_irrefl, Value.oneCell', gt_iff_lt, Nat.reduceLeDiff, Nat.lt_add_one, List.length_append, vSealSl, vMakeMap, vLookup, vMapUpd, vMapEnt, vEntSt, vRange, vEntry, KK.of, KK.av, lkRes, entry_last, vvar_1, vzero_1, vvar_2, vzero_2, vknd_2, vsn_2, vvar_3, vzero_3, vknd_3, vsn_3, vvar_4, vzero_4, vknd_4, vsn_4, vsl_22, vkn_22, vvar_22, vzero_22, vvar_27, vzero_27, vbld_27, vsl_44, vkn_44, vvar_44, vzero_44, vvar_53, vzero_53, vfld_27_0, vfld_27_1]; try simp (disch := omega) only [wrap64])
    | (with_reducible refine hK' _ ?_; clear hK' K')
    | (with_reducible refine hK _ ?_; clear hK K)
    | ((with_reducible show vCall _ (AVal.fn 57 _) _ _ _); refine vCall_newE (nets57p_ac c (by omega) hy (getC hkc)) (by simp only [List.length_append, List.length_cons, List.length_nil, Nat.reduceAdd]; rfl) ?_)
    | (with_reducible refine And.intro (And.intro rfl rfl) ?_)
    | (with_reducible refine And.intro (by omega) ?_)
    | (with_reducible refine And.intro (fun hg => ?_) (fun hg => ?_) <;> first | simp only [eq_false hg, decide_true, decide_false, and_true, true_and, and_false, false_and, not_true_eq_false, not_false_eq_true] | simp only [eq_true hg, decide_true, decide_false, and_true, true_and, and_false, false_and, not_true_eq_false, not_false_eq_true] | simp only [hg, decide_true, decide_false, and_true, true_and, and_false, false_and, not_true_eq_false, not_false_eq_true])
    | (with_reducible refine And.intro rfl (And.intro rfl rfl))
    | (with_reducible refine thenQ_n ?_)
    | (with_reducible refine thenQ_exit ?_)
    | (with_reducible refine thenQ_ret ?_)
    | (with_reducible refine midQ_ret ?_)
    | (with_reducible refine midQ_exit ?_)
    | (with_reducible refine blockQ_same ?_)
    | (with_reducible refine blockQ_ret ?_)
    | (with_reducible refine blockQ_n ?_)
    | (with_reducible refine AW.exit ?_)
    | (with_reducible refine AW.block ?_)
    | (with_reducible refine AW.cond_t rfl ?_)
    | (with_reducible refine AW.cond_f rfl ?_)
    | (with_reducible refine AW.cond_dec rfl (fun hc => ?_) (fun hc => ?_))
    | (with_reducible refine AW.cond rfl (fun hc => ?_) (fun hc => ?_) <;> try simp only [Bool.not_eq_eq_eq_not, Bool.not_true, Bool.not_false, decide_eq_true_eq, decide_eq_false_iff_not] at hc)
    | (with_reducible refine AW.seq ?_)
    | (with_reducible refine AW.skip ?_)
    | (with_reducible refine AW.ret ?_)
    | (with_reducible refine And.intro ?_ ?_)
    | (with_reducible intro hg; first | simp only [eq_false hg, decide_true, decide_false, and_true, true_and, and_false, false_and, not_true_eq_false, not_false_eq_true] | simp only [eq_true hg, decide_true, decide_false, and_true, true_and, and_false, false_and, not_true_eq_false, not_false_eq_true])
    | (with_reducible refine retQ_drop ?_; simp only [vRes, packRes, vLoad, vPart, lk, cond, Nat.reduceBEq, get_loc, getD_zero, getD_succ, true_and, List.length_cons, List.length_nil, Nat.reduceAdd, Nat.reduceLT, Nat.reduceLeDiff, List.take_succ_cons, List.take_zero, List.drop_succ_cons, List.drop_zero, vvar_1, vzero_1, vvar_2, vzero_2, vknd_2, vsn_2, vvar_3, vzero_3, vknd_3, vsn_3, vvar_4, vzero_4, vknd_4, vsn_4, vsl_22, vkn_22, vvar_22, vzero_22, vvar_27, vzero_27, vbld_27, vsl_44, vkn_44, vvar_44, vzero_44, vvar_53, vzero_53, vfld_27_0, vfld_27_1])
    )
  refine AW.loop (fun i : Nat => (⟨66, [(0, .ptr 1 kc 0 0), (3, .sl 1 (H.length + 0) 0 ((piecesTo c i).length)), (4, .sl 1 (H.length + 1) 0 ((nets c).length)), (5, .v (.int .i64 ((i : Int))))], H, [.row false (.sli .i64) (piecesTo c i), .row false (.int .i64) (nets c)]⟩ : St)) (fun i => i ≤ (nets c).length) (fun i => (nets c).length - i) 0 (Nat.zero_le _) ?_ ?_
  · rw [piecesTo_zero]
    exact (Weak.slots (by repeat' first | exact trivial | exact ⟨rfl, trivial⟩ | refine ⟨rfl, ?_⟩))
  intro i hi
  by_cases hin : i < (nets c).length
  ·
    repeat' (first
      | (with_reducible refine AW.sreg envOk fun K hK => ?_)
      | (with_reducible refine AW.region envOk fun K hK => ?_)
      | (with_reducible refine AW.d0reg envOk mixed ?_ ?_ fun K hK => ?_; (first | rfl | exact base_len | exact base_len0); kernel_rfl)
      | (with_reducible refine AW.d0 envOk mixed ?_ ?_ fun K hK => ?_; (first | rfl | exact base_len | exact base_len0); kernel_rfl)
      | (with_reducible refine vcD_nil ?_)
      | (with_reducible refine vcL_nil ?_)
      | (with_reducible (first | refine vcD_cons fun K' hK' => ?_ | refine vcL_cons fun K' hK' => ?_); simp only [isC, Bool.false_or, Bool.or_true, vAppend, elems, ↓reduceDIte, List.take_length, Nat.le_refl, List.drop_zero, vGuard, undef, Bool.not_eq_eq_eq_not, dstOk, vcOp, vcF, isPure, putS, vcCall, St.ev, St.put, lk, AVal.ofVal, initS, Nat.reduceLT, true_and, and_true, vBin, vUn, vPick, vConv, vPart, vLoad, vStore, vIdxA, vIdx, vFldA, vExt, vLen, vMin, vNil, vAlloc, vBox, vBuild, vBuildSl, vMake, vSlice, bnd, partsA, fillA, decAll, AVal.flat, AVal.cell, cellsOk, setRange, ETy.enc, ETy.dec, ETy.sz, ETy.d, cond, Nat.reduceBEq, Nat.reduceAdd, Int.toNat_natCast, List.length_set, List.length_append, List.length_replicate, List.length_take, Nat.reduceSub, Nat.reduceEqDiff, get_loc, setBox_loc, next_eq, List.length_cons, List.length_nil, List.map_cons, List.map_nil, List.append_nil, List.nil_append, List.cons_append, List.set_cons_zero, List.set_cons_succ, getD_zero, getD_succ, List.getElem?_cons_succ, List.getElem?_cons_zero, List.take_succ_cons, List.take_zero, List.drop_succ_cons, List.drop_zero, List.all_cons, List.all_nil, Bool.and_true, Bool.true_and, Option.bind_some, Option.map_some, Option.map_none, decide_eq_true_eq, decide_eq_false_iff_not, ne_eq, Bool.not_eq_true, Bool.not_eq_false, Decidable.not_not, not_true_eq_false, not_false_eq_true, forall_const, false_implies, Bool.true_eq_false, Bool.false_eq_true, reduceCtorEq, decide_true, decide_false, Bool.not_true, Bool.not_false, if_true, if_false, Nat.zero_add, Nat.lt_irrefl, Value.oneCell', gt_iff_lt, Nat.reduceLeDiff, Nat.lt_add_one, List.length_append, vSealSl, vMakeMap, vLookup, vMapUpd, vMapEnt, vEntSt, vRange, vEntry, KK.of, KK.av, lkRes, entry_last, vvar_1, vzero_1, vvar_2, vzero_2, vknd_2, vsn_2, vvar_3, vzero_3, vknd_3, vsn_3, vvar_4, vzero_4, vknd_4, vsn_4, vsl_22, vkn_22, vvar_22, vzero_22, vvar_27, vzero_27, vbld_27, vsl_44, vkn_44, vvar_44, vzero_44, vvar_53, vzero_53, vfld_27_0, vfld_27_1, hgb]; try simp (disch := omega) only [wrap64])
      | (with_reducible refine hK' _ ?_; clear hK' K')
      | (with_reducible refine hK _ ?_; clear hK K)
      | (with_reducible refine And.intro (And.intro rfl rfl) ?_)
      | (with_reducible refine And.intro (by omega) ?_)
      | (with_reducible refine And.intro (fun hg => ?_) (fun hg => ?_) <;> first | simp only [eq_false hg, decide_true, decide_false, and_true, true_and, and_false, false_and, not_true_eq_false, not_false_eq_true] | simp only [eq_true hg, decide_true, decide_false, and_true, true_and, and_false, false_and, not_true_eq_false, not_false_eq_true] | simp only [hg, decide_true, decide_false, and_true, true_and, and_false, false_and, not_true_eq_false, not_false_eq_true])
      | (with_reducible refine And.intro rfl (And.intro rfl rfl))
      | (with_reducible refine thenQ_n ?_)
      | (with_reducible refine thenQ_exit ?_)
      | (with_reducible refine thenQ_ret ?_)
      | (with_reducible refine midQ_ret ?_)
      | (with_reducible refine midQ_exit ?_)
      | (with_reducible refine blockQ_same ?_)
      | (with_reducible refine blockQ_ret ?_)
      | (with_reducible refine blockQ_n ?_)
      | (with_reducible refine AW.exit ?_)
      | (with_reducible refine AW.block ?_)
      | (with_reducible refine AW.cond_t rfl ?_)
      | (with_reducible refine AW.cond_f rfl ?_)
      | (with_reducible refine AW.cond_dec rfl (fun hc => ?_) (fun hc => ?_))
      | (with_reducible refine AW.cond rfl (fun hc => ?_) (fun hc => ?_) <;> try simp only [Bool.not_eq_eq_eq_not, Bool.not_true, Bool.not_false, decide_eq_true_eq, decide_eq_false_iff_not] at hc)
      | (with_reducible refine AW.seq ?_)
      | (with_reducible refine AW.skip ?_)
      | (with_reducible refine AW.ret ?_)
      | (with_reducible refine And.intro ?_ ?_)
      | (with_reducible intro hg; first | simp only [eq_false hg, decide_true, decide_false, and_true, true_and, and_false, false_and, not_true_eq_false, not_false_eq_true] | simp only [eq_true hg, decide_true, decide_false, and_true, true_and, and_false, false_and, not_true_eq_false, not_false_eq_true])
      | (with_reducible refine retQ_drop ?_; simp only [vRes, packRes, vLoad, vPart, lk, cond, Nat.reduceBEq, get_loc, getD_zero, getD_succ, true_and, List.length_cons, List.length_nil, Nat.reduceAdd, Nat.reduceLT, Nat.reduceLeDiff, List.take_succ_cons, List.take_zero, List.drop_succ_cons, List.drop_zero, vvar_1, vzero_1, vvar_2, vzero_2, vknd_2, vsn_2, vvar_3, vzero_3, vknd_3, vsn_3, vvar_4, vzero_4, vknd_4, vsn_4, vsl_22, vkn_22, vvar_22, vzero_22, vvar_27, vzero_27, vbld_27, vsl_44, vkn_44, vvar_44, vzero_44, vvar_53, vzero_53, vfld_27_0, vfld_27_1])
      )
    · refine AW.loop (fun k : Nat => (⟨66, [(0, .ptr 1 kc 0 0), (3, .sl 1 (H.length + 0) 0 ((pcs c i k).length)), (4, .sl 1 (H.length + 1) 0 ((nets c).length)), (5, .v (.int .i64 ((i : Int)))), (6, .v (.int .i64 (lastC (colsTo c ((nets c).getD i 0) k)))), (7, .v (.int .i64 ((k : Int))))], H, [.row false (.sli .i64) (pcs c i k), .row false (.int .i64) (nets c)]⟩ : St)) (fun k => k ≤ c.1.length) (fun k => c.1.length - k) 0 (Nat.zero_le _) ?_ ?_
      · rw [pcs_zero, show lastC (colsTo c ((nets c).getD i 0) 0) = -1 from rfl]
        exact (Weak.slots (by repeat' first | exact trivial | exact ⟨rfl, trivial⟩ | refine ⟨rfl, ?_⟩))
      intro k hk
      by_cases hkn : k < c.1.length
      · skip
        have hpl := pcs_le hx (i := i) (k := k) (by omega)
        have htk : (pcs c i k).take (pcs c i k).length = pcs c i k := List.take_of_length_le (Nat.le_refl _)
        by_cases hA : c.1.getD k 0 = (nets c).getD i 0
        · have hA' := eq_true hA
          have hH : HasC c ((nets c).getD i 0) k := .inl hA
          by_cases h0 : colsTo c ((nets c).getD i 0) k = []
          · have hl1 : lastC (colsTo c ((nets c).getD i 0) k) = -1 := if_pos h0
            repeat' (first
              | (with_reducible refine AW.sreg envOk fun K hK => ?_)
              | (with_reducible refine AW.region envOk fun K hK => ?_)
              | (with_reducible refine AW.d0reg envOk mixed ?_ ?_ fun K hK => ?_; (first | rfl | exact base_len | exact base_len0); kernel_rfl)
              | (with_reducible refine AW.d0 envOk mixed ?_ ?_ fun K hK => ?_; (first | rfl | exact base_len | exact base_len0); kernel_rfl)
              | (with_reducible refine vcD_nil ?_)
              | (with_reducible refine vcL_nil ?_)
              | (with_reducible (first | refine vcD_cons fun K' hK' => ?_ | refine vcL_cons fun K' hK' => ?_); simp only [isC, Bool.false_or, Bool.or_true, vAppend, elems, ↓reduceDIte, List.take_length, Nat.le_refl, List.drop_zero, vGuard, undef, Bool.not_eq_eq_eq_not, dstOk, vcOp, vcF, isPure, putS, vcCall, St.ev, St.put, lk, AVal.ofVal, initS, Nat.reduceLT, true_and, and_true, vBin, vUn, vPick, vConv, vPart, vLoad, vStore, vIdxA, vIdx, vFldA, vExt, vLen, vMin, vNil, vAlloc, vBox, vBuild, vBuildSl, vMake, vSlice, bnd, partsA, fillA, decAll, AVal.flat, AVal.cell, cellsOk, setRange, ETy.enc, ETy.dec, ETy.sz, ETy.d, cond, Nat.reduceBEq, Nat.reduceAdd, Int.toNat_natCast, List.length_set, List.length_append, List.length_replicate, List.length_take, Nat.reduceSub, Nat.reduceEqDiff, get_loc, setBox_loc, next_eq, List.length_cons, List.length_nil, List.map_cons, List.map_nil, List.append_nil, List.nil_append, List.cons_append, List.set_cons_zero, List.set_cons_succ, getD_zero, getD_succ, List.getElem?_cons_succ, List.getElem?_cons_zero, List.take_succ_cons, List.take_zero, List.drop_succ_cons, List.drop_zero, List.all_cons, List.all_nil, Bool.and_true, Bool.true_and, Option.bind_some, Option.map_some, Option.map_none, decide_eq_true_eq, decide_eq_false_iff_not, ne_eq, Bool.not_eq_true, Bool.not_eq_false, Decidable.not_not, not_true_eq_false, not_false_eq_true, forall_const, false_implies, Bool.true_eq_false, Bool.false_eq_true, reduceCtorEq, decide_true, decide_false, Bool.not_true, Bool.not_false, if_true, if_false, Nat.zero_add, Nat.lt_irrefl, Value.oneCell', gt_iff_lt, Nat.reduceLeDiff, Nat.lt_add_one, List.length_append, vSealSl, vMakeMap, vLookup, vMapUpd, vMapEnt, vEntSt, vRange, vEntry, KK.of, KK.av, lkRes, entry_last, vvar_1, vzero_1, vvar_2, vzero_2, vknd_2, vsn_2, vvar_3, vzero_3, vknd_3, vsn_3, vvar_4, vzero_4, vknd_4, vsn_4, vsl_22, vkn_22, vvar_22, vzero_22, vvar_27, vzero_27, vbld_27, vsl_44, vkn_44, vvar_44, vzero_44, vvar_53, vzero_53, vfld_27_0, vfld_27_1, hgb, hA', hl1, htk]; try simp (disch := omega) only [wrap64])
              | (with_reducible refine hK' _ ?_; clear hK' K')
              | (with_reducible refine hK _ ?_; clear hK K)
              | (with_reducible refine And.intro (And.intro rfl rfl) ?_)
              | (with_reducible refine And.intro (by omega) ?_)
              | (with_reducible refine And.intro (fun hg => ?_) (fun hg => ?_) <;> first | simp only [eq_false hg, decide_true, decide_false, and_true, true_and, and_false, false_and, not_true_eq_false, not_false_eq_true] | simp only [eq_true hg, decide_true, decide_false, and_true, true_and, and_false, false_and, not_true_eq_false, not_false_eq_true] | simp only [hg, decide_true, decide_false, and_true, true_and, and_false, false_and, not_true_eq_false, not_false_eq_true])
              | (with_reducible refine And.intro rfl (And.intro rfl rfl))
              | (with_reducible refine thenQ_n ?_)
              | (with_reducible refine thenQ_exit ?_)
              | (with_reducible refine thenQ_ret ?_)
              | (with_reducible refine midQ_ret ?_)
              | (with_reducible refine midQ_exit ?_)
              | (with_reducible refine blockQ_same ?_)
              | (with_reducible refine blockQ_ret ?_)
              | (with_reducible refine blockQ_n ?_)
              | (with_reducible refine AW.exit ?_)
              | (with_reducible refine AW.block ?_)
              | (with_reducible refine AW.cond_t rfl ?_)
              | (with_reducible refine AW.cond_f rfl ?_)
              | (with_reducible refine AW.cond_dec rfl (fun hc => ?_) (fun hc => ?_))
              | (with_reducible refine AW.cond rfl (fun hc => ?_) (fun hc => ?_) <;> try simp only [Bool.not_eq_eq_eq_not, Bool.not_true, Bool.not_false, decide_eq_true_eq, decide_eq_false_iff_not] at hc)
              | (with_reducible refine AW.seq ?_)
              | (with_reducible refine AW.skip ?_)
              | (with_reducible refine AW.ret ?_)
              | (with_reducible refine And.intro ?_ ?_)
              | (with_reducible intro hg; first | simp only [eq_false hg, decide_true, decide_false, and_true, true_and, and_false, false_and, not_true_eq_false, not_false_eq_true] | simp only [eq_true hg, decide_true, decide_false, and_true, true_and, and_false, false_and, not_true_eq_false, not_false_eq_true])
              | (with_reducible refine retQ_drop ?_; simp only [vRes, packRes, vLoad, vPart, lk, cond, Nat.reduceBEq, get_loc, getD_zero, getD_succ, true_and, List.length_cons, List.length_nil, Nat.reduceAdd, Nat.reduceLT, Nat.reduceLeDiff, List.take_succ_cons, List.take_zero, List.drop_succ_cons, List.drop_zero, vvar_1, vzero_1, vvar_2, vzero_2, vknd_2, vsn_2, vvar_3, vzero_3, vknd_3, vsn_3, vvar_4, vzero_4, vknd_4, vsn_4, vsl_22, vkn_22, vvar_22, vzero_22, vvar_27, vzero_27, vbld_27, vsl_44, vkn_44, vvar_44, vzero_44, vvar_53, vzero_53, vfld_27_0, vfld_27_1])
              )
            all_goals first
              | (exfalso; omega)
              | (refine ⟨k + 1, by omega, by omega, ?_⟩
                 rw [pcs_first hH h0, cols_at hH, lastC_snoc]
                 exact (Weak.slots (by repeat' first | exact trivial | exact ⟨rfl, trivial⟩ | refine ⟨rfl, ?_⟩)))
              | fail
          · have hl := lastC_rng c ((nets c).getD i 0) k h0
            repeat' (first
              | (with_reducible refine AW.sreg envOk fun K hK => ?_)
              | (with_reducible refine AW.region envOk fun K hK => ?_)
              | (with_reducible refine AW.d0reg envOk mixed ?_ ?_ fun K hK => ?_; (first | rfl | exact base_len | exact base_len0); kernel_rfl)
              | (with_reducible refine AW.d0 envOk mixed ?_ ?_ fun K hK => ?_; (first | rfl | exact base_len | exact base_len0); kernel_rfl)
              | (with_reducible refine vcD_nil ?_)
              | (with_reducible refine vcL_nil ?_)
              | (with_reducible (first | refine vcD_cons fun K' hK' => ?_ | refine vcL_cons fun K' hK' => ?_); simp only [isC, Bool.false_or, Bool.or_true, vAppend, elems, ↓reduceDIte, List.take_length, Nat.le_refl, List.drop_zero, vGuard, undef, Bool.not_eq_eq_eq_not, dstOk, vcOp, vcF, isPure, putS, vcCall, St.ev, St.put, lk, AVal.ofVal, initS, Nat.reduceLT, true_and, and_true, vBin, vUn, vPick, vConv, vPart, vLoad, vStore, vIdxA, vIdx, vFldA, vExt, vLen, vMin, vNil, vAlloc, vBox, vBuild, vBuildSl, vMake, vSlice, bnd, partsA, fillA, decAll, AVal.flat, AVal.cell, cellsOk, setRange, ETy.enc, ETy.dec, ETy.sz, ETy.d, cond, Nat.reduceBEq, Nat.reduceAdd, Int.toNat_natCast, List.length_set, List.length_append, List.length_replicate, List.length_take, Nat.reduceSub, Nat.reduceEqDiff, get_loc, setBox_loc, next_eq, List.length_cons, List.length_nil, List.map_cons, List.map_nil, List.append_nil, List.nil_append, List.cons_append, List.set_cons_zero, List.set_cons_succ, getD_zero, getD_succ, List.getElem?_cons_succ, List.getElem?_cons_zero, List.take_succ_cons, List.take_zero, List.drop_succ_cons, List.drop_zero, List.all_cons, List.all_nil, Bool.and_true, Bool.true_and, Option.bind_some, Option.map_some, Option.map_none, decide_eq_true_eq, decide_eq_false_iff_not, ne_eq, Bool.not_eq_true, Bool.not_eq_false, Decidable.not_not, not_true_eq_false, not_false_eq_true, forall_const, false_implies, Bool.true_eq_false, Bool.false_eq_true, reduceCtorEq, decide_true, decide_false, Bool.not_true, Bool.not_false, if_true, if_false, Nat.zero_add, Nat.lt_irrefl, Value.oneCell', gt_iff_lt, Nat.reduceLeDiff, Nat.lt_add_one, List.length_append, vSealSl, vMakeMap, vLookup, vMapUpd, vMapEnt, vEntSt, vRange, vEntry, KK.of, KK.av, lkRes, entry_last, vvar_1, vzero_1, vvar_2, vzero_2, vknd_2, vsn_2, vvar_3, vzero_3, vknd_3, vsn_3, vvar_4, vzero_4, vknd_4, vsn_4, vsl_22, vkn_22, vvar_22, vzero_22, vvar_27, vzero_27, vbld_27, vsl_44, vkn_44, vvar_44, vzero_44, vvar_53, vzero_53, vfld_27_0, vfld_27_1, hgb, hA', htk]; try simp (disch := omega) only [wrap64])
              | (with_reducible refine hK' _ ?_; clear hK' K')
              | (with_reducible refine hK _ ?_; clear hK K)
              | (with_reducible refine And.intro (And.intro rfl rfl) ?_)
              | (with_reducible refine And.intro (by omega) ?_)
              | (with_reducible refine And.intro (fun hg => ?_) (fun hg => ?_) <;> first | simp only [eq_false hg, decide_true, decide_false, and_true, true_and, and_false, false_and, not_true_eq_false, not_false_eq_true] | simp only [eq_true hg, decide_true, decide_false, and_true, true_and, and_false, false_and, not_true_eq_false, not_false_eq_true] | simp only [hg, decide_true, decide_false, and_true, true_and, and_false, false_and, not_true_eq_false, not_false_eq_true])
              | (with_reducible refine And.intro rfl (And.intro rfl rfl))
              | (with_reducible refine thenQ_n ?_)
              | (with_reducible refine thenQ_exit ?_)
              | (with_reducible refine thenQ_ret ?_)
              | (with_reducible refine midQ_ret ?_)
              | (with_reducible refine midQ_exit ?_)
              | (with_reducible refine blockQ_same ?_)
              | (with_reducible refine blockQ_ret ?_)
              | (with_reducible refine blockQ_n ?_)
              | (with_reducible refine AW.exit ?_)
              | (with_reducible refine AW.block ?_)
              | (with_reducible refine AW.cond_t rfl ?_)
              | (with_reducible refine AW.cond_f rfl ?_)
              | (with_reducible refine AW.cond_dec rfl (fun hc => ?_) (fun hc => ?_))
              | (with_reducible refine AW.cond rfl (fun hc => ?_) (fun hc => ?_) <;> try simp only [Bool.not_eq_eq_eq_not, Bool.not_true, Bool.not_false, decide_eq_true_eq, decide_eq_false_iff_not] at hc)
              | (with_reducible refine AW.seq ?_)
              | (with_reducible refine AW.skip ?_)
              | (with_reducible refine AW.ret ?_)
              | (with_reducible refine And.intro ?_ ?_)
              | (with_reducible intro hg; first | simp only [eq_false hg, decide_true, decide_false, and_true, true_and, and_false, false_and, not_true_eq_false, not_false_eq_true] | simp only [eq_true hg, decide_true, decide_false, and_true, true_and, and_false, false_and, not_true_eq_false, not_false_eq_true])
              | (with_reducible refine retQ_drop ?_; simp only [vRes, packRes, vLoad, vPart, lk, cond, Nat.reduceBEq, get_loc, getD_zero, getD_succ, true_and, List.length_cons, List.length_nil, Nat.reduceAdd, Nat.reduceLT, Nat.reduceLeDiff, List.take_succ_cons, List.take_zero, List.drop_succ_cons, List.drop_zero, vvar_1, vzero_1, vvar_2, vzero_2, vknd_2, vsn_2, vvar_3, vzero_3, vknd_3, vsn_3, vvar_4, vzero_4, vknd_4, vsn_4, vsl_22, vkn_22, vvar_22, vzero_22, vvar_27, vzero_27, vbld_27, vsl_44, vkn_44, vvar_44, vzero_44, vvar_53, vzero_53, vfld_27_0, vfld_27_1])
              )
            all_goals first
              | (exfalso; omega)
              | (refine ⟨k + 1, by omega, by omega, ?_⟩
                 rw [pcs_next hH h0, List.length_append, cols_at hH, lastC_snoc]
                 exact (Weak.sel [4, 1] hB (by decide) (by (repeat' (first | exact trivial | exact RenB.plRow rfl | exact RenB.dead _ | exact RenB.map _ _ | exact RenB.iter rfl | refine And.intro ?_ ?_ | (refine RenB.plBox ?_; (repeat' (first | exact Pl.v _ | exact Pl.junk | exact Pl.rd rfl _ | exact pl_nil | refine pl_cons ?_ ?_ | refine Pl.agg ?_ | refine Pl.tup ?_ | refine Pl.rp ?_ | refine Pl.fn ?_)); (first | done | fail)) | refine RenB.of ?_ | exact RenV.ptr rfl | exact RenV.sl rfl | exact RenV.mp rfl | exact RenV.it rfl | (refine RenV.pl ?_; (repeat' (first | exact Pl.v _ | exact Pl.junk | exact Pl.rd rfl _ | exact pl_nil | refine pl_cons ?_ ?_ | refine Pl.agg ?_ | refine Pl.tup ?_ | refine Pl.rp ?_ | refine Pl.fn ?_)); (first | done | fail)) | refine RenV.aggL ?_ | refine RenV.fnL ?_ | exact Nat.lt_of_sub_pos (by decide) | (simp; (first | done | fail)))); (first | done | fail)) (by (repeat' (first | exact trivial | exact RenV.ptr rfl | exact RenV.sl rfl | exact RenV.mp rfl | exact RenV.it rfl | exact RenV.low (.v _) | exact RenV.low (IdsLt.ptr (by assumption)) | (refine RenV.pl ?_; (repeat' (first | exact Pl.v _ | exact Pl.junk | exact Pl.rd rfl _ | exact pl_nil | refine pl_cons ?_ ?_ | refine Pl.agg ?_ | refine Pl.tup ?_ | refine Pl.rp ?_ | refine Pl.fn ?_)); (first | done | fail)) | refine RenV.fnL ?_ | refine RenV.aggL ?_ | refine And.intro ?_ ?_)); (first | done | fail))))
              | fail
        · have hA' := eq_false hA
          by_cases hB2 : c.2.getD k 0 = (nets c).getD i 0
          · have hB' := eq_true hB2
            have hH : HasC c ((nets c).getD i 0) k := .inr hB2
            by_cases h0 : colsTo c ((nets c).getD i 0) k = []
            · have hl1 : lastC (colsTo c ((nets c).getD i 0) k) = -1 := if_pos h0
              repeat' (first
                | (with_reducible refine AW.sreg envOk fun K hK => ?_)
                | (with_reducible refine AW.region envOk fun K hK => ?_)
                | (with_reducible refine AW.d0reg envOk mixed ?_ ?_ fun K hK => ?_; (first | rfl | exact base_len | exact base_len0); kernel_rfl)
                | (with_reducible refine AW.d0 envOk mixed ?_ ?_ fun K hK => ?_; (first | rfl | exact base_len | exact base_len0); kernel_rfl)
                | (with_reducible refine vcD_nil ?_)
                | (with_reducible refine vcL_nil ?_)
                | (with_reducible (first | refine vcD_cons fun K' hK' => ?_ | refine vcL_cons fun K' hK' => ?_); simp only [isC, Bool.false_or, Bool.or_true, vAppend, elems, ↓reduceDIte, List.take_length, Nat.le_refl, List.drop_zero, vGuard, undef, Bool.not_eq_eq_eq_not, dstOk, vcOp, vcF, isPure, putS, vcCall, St.ev, St.put, lk, AVal.ofVal, initS, Nat.reduceLT, true_and, and_true, vBin, vUn, vPick, vConv, vPart, vLoad, vStore, vIdxA, vIdx, vFldA, vExt, vLen, vMin, vNil, vAlloc, vBox, vBuild, vBuildSl, vMake, vSlice, bnd, partsA, fillA, decAll, AVal.flat, AVal.cell, cellsOk, setRange, ETy.enc, ETy.dec, ETy.sz, ETy.d, cond, Nat.reduceBEq, Nat.reduceAdd, Int.toNat_natCast, List.length_set, List.length_append, List.length_replicate, List.length_take, Nat.reduceSub, Nat.reduceEqDiff, get_loc, setBox_loc, next_eq, List.length_cons, List.length_nil, List.map_cons, List.map_nil, List.append_nil, List.nil_append, List.cons_append, List.set_cons_zero, List.set_cons_succ, getD_zero, getD_succ, List.getElem?_cons_succ, List.getElem?_cons_zero, List.take_succ_cons, List.take_zero, List.drop_succ_cons, List.drop_zero, List.all_cons, List.all_nil, Bool.and_true, Bool.true_and, Option.bind_some, Option.map_some, Option.map_none, decide_eq_true_eq, decide_eq_false_iff_not, ne_eq, Bool.not_eq_true, Bool.not_eq_false, Decidable.not_not, not_true_eq_false, not_false_eq_true, forall_const, false_implies, Bool.true_eq_false, Bool.false_eq_true, reduceCtorEq, decide_true, decide_false, Bool.not_true, Bool.not_false, if_true, if_false, Nat.zero_add, Nat.lt_irrefl, Value.oneCell', gt_iff_lt, Nat.reduceLeDiff, Nat.lt_add_one, List.length_append, vSealSl, vMakeMap, vLookup, vMapUpd, vMapEnt, vEntSt, vRange, vEntry, KK.of, KK.av, lkRes, entry_last, vvar_1, vzero_1, vvar_2, vzero_2, vknd_2, vsn_2, vvar_3, vzero_3, vknd_3, vsn_3, vvar_4, vzero_4, vknd_4, vsn_4, vsl_22, vkn_22, vvar_22, vzero_22, vvar_27, vzero_27, vbld_27, vsl_44, vkn_44, vvar_44, vzero_44, vvar_53, vzero_53, vfld_27_0, vfld_27_1, hgb, hA', hB', hl1, htk]; try simp (disch := omega) only [wrap64])
                | (with_reducible refine hK' _ ?_; clear hK' K')
                | (with_reducible refine hK _ ?_; clear hK K)
                | (with_reducible refine And.intro (And.intro rfl rfl) ?_)
                | (with_reducible refine And.intro (by omega) ?_)
                | (with_reducible refine And.intro (fun hg => ?_) (fun hg => ?_) <;> first | simp only [eq_false hg, decide_true, decide_false, and_true, true_and, and_false, false_and, not_true_eq_false, not_false_eq_true] | simp only [eq_true hg, decide_true, decide_false, and_true, true_and, and_false, false_and, not_true_eq_false, not_false_eq_true] | simp only [hg, decide_true, decide_false, and_true, true_and, and_false, false_and, not_true_eq_false, not_false_eq_true])
                | (with_reducible refine And.intro rfl (And.intro rfl rfl))
                | (with_reducible refine thenQ_n ?_)
                | (with_reducible refine thenQ_exit ?_)
                | (with_reducible refine thenQ_ret ?_)
                | (with_reducible refine midQ_ret ?_)
                | (with_reducible refine midQ_exit ?_)
                | (with_reducible refine blockQ_same ?_)
                | (with_reducible refine blockQ_ret ?_)
                | (with_reducible refine blockQ_n ?_)
                | (with_reducible refine AW.exit ?_)
                | (with_reducible refine AW.block ?_)
                | (with_reducible refine AW.cond_t rfl ?_)
                | (with_reducible refine AW.cond_f rfl ?_)
                | (with_reducible refine AW.cond_dec rfl (fun hc => ?_) (fun hc => ?_))
                | (with_reducible refine AW.cond rfl (fun hc => ?_) (fun hc => ?_) <;> try simp only [Bool.not_eq_eq_eq_not, Bool.not_true, Bool.not_false, decide_eq_true_eq, decide_eq_false_iff_not] at hc)
                | (with_reducible refine AW.seq ?_)
                | (with_reducible refine AW.skip ?_)
                | (with_reducible refine AW.ret ?_)
                | (with_reducible refine And.intro ?_ ?_)
                | (with_reducible intro hg; first | simp only [eq_false hg, decide_true, decide_false, and_true, true_and, and_false, false_and, not_true_eq_false, not_false_eq_true] | simp only [eq_true hg, decide_true, decide_false, and_true, true_and, and_false, false_and, not_true_eq_false, not_false_eq_true])
                | (with_reducible refine retQ_drop ?_; simp only [vRes, packRes, vLoad, vPart, lk, cond, Nat.reduceBEq, get_loc, getD_zero, getD_succ, true_and, List.length_cons, List.length_nil, Nat.reduceAdd, Nat.reduceLT, Nat.reduceLeDiff, List.take_succ_cons, List.take_zero, List.drop_succ_cons, List.drop_zero, vvar_1, vzero_1, vvar_2, vzero_2, vknd_2, vsn_2, vvar_3, vzero_3, vknd_3, vsn_3, vvar_4, vzero_4, vknd_4, vsn_4, vsl_22, vkn_22, vvar_22, vzero_22, vvar_27, vzero_27, vbld_27, vsl_44, vkn_44, vvar_44, vzero_44, vvar_53, vzero_53, vfld_27_0, vfld_27_1])
                )
              all_goals first
                | (exfalso; omega)
                | (refine ⟨k + 1, by omega, by omega, ?_⟩
                   rw [pcs_first hH h0, cols_at hH, lastC_snoc]
                   exact (Weak.slots (by repeat' first | exact trivial | exact ⟨rfl, trivial⟩ | refine ⟨rfl, ?_⟩)))
                | fail
            · have hl := lastC_rng c ((nets c).getD i 0) k h0
              repeat' (first
                | (with_reducible refine AW.sreg envOk fun K hK => ?_)
                | (with_reducible refine AW.region envOk fun K hK => ?_)
                | (with_reducible refine AW.d0reg envOk mixed ?_ ?_ fun K hK => ?_; (first | rfl | exact base_len | exact base_len0); kernel_rfl)
                | (with_reducible refine AW.d0 envOk mixed ?_ ?_ fun K hK => ?_; (first | rfl | exact base_len | exact base_len0); kernel_rfl)
                | (with_reducible refine vcD_nil ?_)
                | (with_reducible refine vcL_nil ?_)
                | (with_reducible (first | refine vcD_cons fun K' hK' => ?_ | refine vcL_cons fun K' hK' => ?_); simp only [isC, Bool.false_or, Bool.or_true, vAppend, elems, ↓reduceDIte, List.take_length, Nat.le_refl, List.drop_zero, vGuard, undef, Bool.not_eq_eq_eq_not, dstOk, vcOp, vcF, isPure, putS, vcCall, St.ev, St.put, lk, AVal.ofVal, initS, Nat.reduceLT, true_and, and_true, vBin, vUn, vPick, vConv, vPart, vLoad, vStore, vIdxA, vIdx, vFldA, vExt, vLen, vMin, vNil, vAlloc, vBox, vBuild, vBuildSl, vMake, vSlice, bnd, partsA, fillA, decAll, AVal.flat, AVal.cell, cellsOk, setRange, ETy.enc, ETy.dec, ETy.sz, ETy.d, cond, Nat.reduceBEq, Nat.reduceAdd, Int.toNat_natCast, List.length_set, List.length_append, List.length_replicate, List.length_take, Nat.reduceSub, Nat.reduceEqDiff, get_loc, setBox_loc, next_eq, List.length_cons, List.length_nil, List.map_cons, List.map_nil, List.append_nil, List.nil_append, List.cons_append, List.set_cons_zero, List.set_cons_succ, getD_zero, getD_succ, List.getElem?_cons_succ, List.getElem?_cons_zero, List.take_succ_cons, List.take_zero, List.drop_succ_cons, List.drop_zero, List.all_cons, List.all_nil, Bool.and_true, Bool.true_and, Option.bind_some, Option.map_some, Option.map_none, decide_eq_true_eq, decide_eq_false_iff_not, ne_eq, Bool.not_eq_true, Bool.not_eq_false, Decidable.not_not, not_true_eq_false, not_false_eq_true, forall_const, false_implies, Bool.true_eq_false, Bool.false_eq_true, reduceCtorEq, decide_true, decide_false, Bool.not_true, Bool.not_false, if_true, if_false, Nat.zero_add, Nat.lt_irrefl, Value.oneCell', gt_iff_lt, Nat.reduceLeDiff, Nat.lt_add_one, List.length_append, vSealSl, vMakeMap, vLookup, vMapUpd, vMapEnt, vEntSt, vRange, vEntry, KK.of, KK.av, lkRes, entry_last, vvar_1, vzero_1, vvar_2, vzero_2, vknd_2, vsn_2, vvar_3, vzero_3, vknd_3, vsn_3, vvar_4, vzero_4, vknd_4, vsn_4, vsl_22, vkn_22, vvar_22, vzero_22, vvar_27, vzero_27, vbld_27, vsl_44, vkn_44, vvar_44, vzero_44, vvar_53, vzero_53, vfld_27_0, vfld_27_1, hgb, hA', hB', htk]; try simp (disch := omega) only [wrap64])
                | (with_reducible refine hK' _ ?_; clear hK' K')
                | (with_reducible refine hK _ ?_; clear hK K)
                | (with_reducible refine And.intro (And.intro rfl rfl) ?_)
                | (with_reducible refine And.intro (by omega) ?_)
                | (with_reducible refine And.intro (fun hg => ?_) (fun hg => ?_) <;> first | simp only [eq_false hg, decide_true, decide_false, and_true, true_and, and_false, false_and, not_true_eq_false, not_false_eq_true] | simp only [eq_true hg, decide_true, decide_false, and_true, true_and, and_false, false_and, not_true_eq_false, not_false_eq_true] | simp only [hg, decide_true, decide_false, and_true, true_and, and_false, false_and, not_true_eq_false, not_false_eq_true])
                | (with_reducible refine And.intro rfl (And.intro rfl rfl))
                | (with_reducible refine thenQ_n ?_)
                | (with_reducible refine thenQ_exit ?_)
                | (with_reducible refine thenQ_ret ?_)
                | (with_reducible refine midQ_ret ?_)
                | (with_reducible refine midQ_exit ?_)
                | (with_reducible refine blockQ_same ?_)
                | (with_reducible refine blockQ_ret ?_)
                | (with_reducible refine blockQ_n ?_)
                | (with_reducible refine AW.exit ?_)
                | (with_reducible refine AW.block ?_)
                | (with_reducible refine AW.cond_t rfl ?_)
                | (with_reducible refine AW.cond_f rfl ?_)
                | (with_reducible refine AW.cond_dec rfl (fun hc => ?_) (fun hc => ?_))
                | (with_reducible refine AW.cond rfl (fun hc => ?_) (fun hc => ?_) <;> try simp only [Bool.not_eq_eq_eq_not, Bool.not_true, Bool.not_false, decide_eq_true_eq, decide_eq_false_iff_not] at hc)
                | (with_reducible refine AW.seq ?_)
                | (with_reducible refine AW.skip ?_)
                | (with_reducible refine AW.ret ?_)
                | (with_reducible refine And.intro ?_ ?_)
                | (with_reducible intro hg; first | simp only [eq_false hg, decide_true, decide_false, and_true, true_and, and_false, false_and, not_true_eq_false, not_false_eq_true] | simp only [eq_true hg, decide_true, decide_false, and_true, true_and, and_false, false_and, not_true_eq_false, not_false_eq_true])
                | (with_reducible refine retQ_drop ?_; simp only [vRes, packRes, vLoad, vPart, lk, cond, Nat.reduceBEq, get_loc, getD_zero, getD_succ, true_and, List.length_cons, List.length_nil, Nat.reduceAdd, Nat.reduceLT, Nat.reduceLeDiff, List.take_succ_cons, List.take_zero, List.drop_succ_cons, List.drop_zero, vvar_1, vzero_1, vvar_2, vzero_2, vknd_2, vsn_2, vvar_3, vzero_3, vknd_3, vsn_3, vvar_4, vzero_4, vknd_4, vsn_4, vsl_22, vkn_22, vvar_22, vzero_22, vvar_27, vzero_27, vbld_27, vsl_44, vkn_44, vvar_44, vzero_44, vvar_53, vzero_53, vfld_27_0, vfld_27_1])
                )
              all_goals first
                | (exfalso; omega)
                | (refine ⟨k + 1, by omega, by omega, ?_⟩
                   rw [pcs_next hH h0, List.length_append, cols_at hH, lastC_snoc]
                   exact (Weak.sel [4, 1] hB (by decide) (by (repeat' (first | exact trivial | exact RenB.plRow rfl | exact RenB.dead _ | exact RenB.map _ _ | exact RenB.iter rfl | refine And.intro ?_ ?_ | (refine RenB.plBox ?_; (repeat' (first | exact Pl.v _ | exact Pl.junk | exact Pl.rd rfl _ | exact pl_nil | refine pl_cons ?_ ?_ | refine Pl.agg ?_ | refine Pl.tup ?_ | refine Pl.rp ?_ | refine Pl.fn ?_)); (first | done | fail)) | refine RenB.of ?_ | exact RenV.ptr rfl | exact RenV.sl rfl | exact RenV.mp rfl | exact RenV.it rfl | (refine RenV.pl ?_; (repeat' (first | exact Pl.v _ | exact Pl.junk | exact Pl.rd rfl _ | exact pl_nil | refine pl_cons ?_ ?_ | refine Pl.agg ?_ | refine Pl.tup ?_ | refine Pl.rp ?_ | refine Pl.fn ?_)); (first | done | fail)) | refine RenV.aggL ?_ | refine RenV.fnL ?_ | exact Nat.lt_of_sub_pos (by decide) | (simp; (first | done | fail)))); (first | done | fail)) (by (repeat' (first | exact trivial | exact RenV.ptr rfl | exact RenV.sl rfl | exact RenV.mp rfl | exact RenV.it rfl | exact RenV.low (.v _) | exact RenV.low (IdsLt.ptr (by assumption)) | (refine RenV.pl ?_; (repeat' (first | exact Pl.v _ | exact Pl.junk | exact Pl.rd rfl _ | exact pl_nil | refine pl_cons ?_ ?_ | refine Pl.agg ?_ | refine Pl.tup ?_ | refine Pl.rp ?_ | refine Pl.fn ?_)); (first | done | fail)) | refine RenV.fnL ?_ | refine RenV.aggL ?_ | refine And.intro ?_ ?_)); (first | done | fail))))
                | fail
          · have hB' := eq_false hB2
            have hH : ¬ HasC c ((nets c).getD i 0) k := fun h => h.elim hA hB2
            repeat' (first
              | (with_reducible refine AW.sreg envOk fun K hK => ?_)
              | (with_reducible refine AW.region envOk fun K hK => ?_)
              | (with_reducible refine AW.d0reg envOk mixed ?_ ?_ fun K hK => ?_; (first | rfl | exact base_len | exact base_len0); kernel_rfl)
              | (with_reducible refine AW.d0 envOk mixed ?_ ?_ fun K hK => ?_; (first | rfl | exact base_len | exact base_len0); kernel_rfl)
              | (with_reducible refine vcD_nil ?_)
              | (with_reducible refine vcL_nil ?_)
              | (with_reducible (first | refine vcD_cons fun K' hK' => ?_ | refine vcL_cons fun K' hK' => ?_); simp only [isC, Bool.false_or, Bool.or_true, vAppend, elems, ↓reduceDIte, List.take_length, Nat.le_refl, List.drop_zero, vGuard, undef, Bool.not_eq_eq_eq_not, dstOk, vcOp, vcF, isPure, putS, vcCall, St.ev, St.put, lk, AVal.ofVal, initS, Nat.reduceLT, true_and, and_true, vBin, vUn, vPick, vConv, vPart, vLoad, vStore, vIdxA, vIdx, vFldA, vExt, vLen, vMin, vNil, vAlloc, vBox, vBuild, vBuildSl, vMake, vSlice, bnd, partsA, fillA, decAll, AVal.flat, AVal.cell, cellsOk, setRange, ETy.enc, ETy.dec, ETy.sz, ETy.d, cond, Nat.reduceBEq, Nat.reduceAdd, Int.toNat_natCast, List.length_set, List.length_append, List.length_replicate, List.length_take, Nat.reduceSub, Nat.reduceEqDiff, get_loc, setBox_loc, next_eq, List.length_cons, List.length_nil, List.map_cons, List.map_nil, List.append_nil, List.nil_append, List.cons_append, List.set_cons_zero, List.set_cons_succ, getD_zero, getD_succ, List.getElem?_cons_succ, List.getElem?_cons_zero, List.take_succ_cons, List.take_zero, List.drop_succ_cons, List.drop_zero, List.all_cons, List.all_nil, Bool.and_true, Bool.true_and, Option.bind_some, Option.map_some, Option.map_none, decide_eq_true_eq, decide_eq_false_iff_not, ne_eq, Bool.not_eq_true, Bool.not_eq_false, Decidable.not_not, not_true_eq_false, not_false_eq_true, forall_const, false_implies, Bool.true_eq_false, Bool.false_eq_true, reduceCtorEq, decide_true, decide_false, Bool.not_true, Bool.not_false, if_true, if_false, Nat.zero_add, Nat.lt_irrefl, Value.oneCell', gt_iff_lt, Nat.reduceLeDiff, Nat.lt_add_one, List.length_append, vSealSl, vMakeMap, vLookup, vMapUpd, vMapEnt, vEntSt, vRange, vEntry, KK.of, KK.av, lkRes, entry_last, vvar_1, vzero_1, vvar_2, vzero_2, vknd_2, vsn_2, vvar_3, vzero_3, vknd_3, vsn_3, vvar_4, vzero_4, vknd_4, vsn_4, vsl_22, vkn_22, vvar_22, vzero_22, vvar_27, vzero_27, vbld_27, vsl_44, vkn_44, vvar_44, vzero_44, vvar_53, vzero_53, vfld_27_0, vfld_27_1, hgb, hA', hB']; try simp (disch := omega) only [wrap64])
              | (with_reducible refine hK' _ ?_; clear hK' K')
              | (with_reducible refine hK _ ?_; clear hK K)
              | (with_reducible refine And.intro (And.intro rfl rfl) ?_)
              | (with_reducible refine And.intro (by omega) ?_)
              | (with_reducible refine And.intro (fun hg => ?_) (fun hg => ?_) <;> first | simp only [eq_false hg, decide_true, decide_false, and_true, true_and, and_false, false_and, not_true_eq_false, not_false_eq_true] | simp only [eq_true hg, decide_true, decide_false, and_true, true_and, and_false, false_and, not_true_eq_false, not_false_eq_true] | simp only [hg, decide_true, decide_false, and_true, true_and, and_false, false_and, not_true_eq_false, not_false_eq_true])
              | (with_reducible refine And.intro rfl (And.intro rfl rfl))
              | (with_reducible refine thenQ_n ?_)
              | (with_reducible refine thenQ_exit ?_)
              | (with_reducible refine thenQ_ret ?_)
              | (with_reducible refine midQ_ret ?_)
              | (with_reducible refine midQ_exit ?_)
              | (with_reducible refine blockQ_same ?_)
              | (with_reducible refine blockQ_ret ?_)
              | (with_reducible refine blockQ_n ?_)
              | (with_reducible refine AW.exit ?_)
              | (with_reducible refine AW.block ?_)
              | (with_reducible refine AW.cond_t rfl ?_)
              | (with_reducible refine AW.cond_f rfl ?_)
              | (with_reducible refine AW.cond_dec rfl (fun hc => ?_) (fun hc => ?_))
              | (with_reducible refine AW.cond rfl (fun hc => ?_) (fun hc => ?_) <;> try simp only [Bool.not_eq_eq_eq_not, Bool.not_true, Bool.not_false, decide_eq_true_eq, decide_eq_false_iff_not] at hc)
              | (with_reducible refine AW.seq ?_)
              | (with_reducible refine AW.skip ?_)
              | (with_reducible refine AW.ret ?_)
              | (with_reducible refine And.intro ?_ ?_)
              | (with_reducible intro hg; first | simp only [eq_false hg, decide_true, decide_false, and_true, true_and, and_false, false_and, not_true_eq_false, not_false_eq_true] | simp only [eq_true hg, decide_true, decide_false, and_true, true_and, and_false, false_and, not_true_eq_false, not_false_eq_true])
              | (with_reducible refine retQ_drop ?_; simp only [vRes, packRes, vLoad, vPart, lk, cond, Nat.reduceBEq, get_loc, getD_zero, getD_succ, true_and, List.length_cons, List.length_nil, Nat.reduceAdd, Nat.reduceLT, Nat.reduceLeDiff, List.take_succ_cons, List.take_zero, List.drop_succ_cons, List.drop_zero, vvar_1, vzero_1, vvar_2, vzero_2, vknd_2, vsn_2, vvar_3, vzero_3, vknd_3, vsn_3, vvar_4, vzero_4, vknd_4, vsn_4, vsl_22, vkn_22, vvar_22, vzero_22, vvar_27, vzero_27, vbld_27, vsl_44, vkn_44, vvar_44, vzero_44, vvar_53, vzero_53, vfld_27_0, vfld_27_1])
              )
            all_goals first
              | (exfalso; omega)
              | (refine ⟨k + 1, by omega, by omega, ?_⟩
                 rw [pcs_skip hH, cols_skip hH]
                 exact (Weak.slots (by repeat' first | exact trivial | exact ⟨rfl, trivial⟩ | refine ⟨rfl, ?_⟩)))
              | fail
      · obtain rfl : k = c.1.length := by omega
        rw [pcs_all c hin]
        repeat' (first
          | (with_reducible refine AW.sreg envOk fun K hK => ?_)
          | (with_reducible refine AW.region envOk fun K hK => ?_)
          | (with_reducible refine AW.d0reg envOk mixed ?_ ?_ fun K hK => ?_; (first | rfl | exact base_len | exact base_len0); kernel_rfl)
          | (with_reducible refine AW.d0 envOk mixed ?_ ?_ fun K hK => ?_; (first | rfl | exact base_len | exact base_len0); kernel_rfl)
          | (with_reducible refine vcD_nil ?_)
          | (with_reducible refine vcL_nil ?_)
          | (with_reducible (first | refine vcD_cons fun K' hK' => ?_ | refine vcL_cons fun K' hK' => ?_); simp only [isC, Bool.false_or, Bool.or_true, vAppend, elems, ↓reduceDIte, List.take_length, Nat.le_refl, List.drop_zero, vGuard, undef, Bool.not_eq_eq_eq_not, dstOk, vcOp, vcF, isPure, putS, vcCall, St.ev, St.put, lk, AVal.ofVal, initS, Nat.reduceLT, true_and, and_true, vBin, vUn, vPick, vConv, vPart, vLoad, vStore, vIdxA, vIdx, vFldA, vExt, vLen, vMin, vNil, vAlloc, vBox, vBuild, vBuildSl, vMake, vSlice, bnd, partsA, fillA, decAll, AVal.flat, AVal.cell, cellsOk, setRange, ETy.enc, ETy.dec, ETy.sz, ETy.d, cond, Nat.reduceBEq, Nat.reduceAdd, Int.toNat_natCast, List.length_set, List.length_append, List.length_replicate, List.length_take, Nat.reduceSub, Nat.reduceEqDiff, get_loc, setBox_loc, next_eq, List.length_cons, List.length_nil, List.map_cons, List.map_nil, List.append_nil, List.nil_append, List.cons_append, List.set_cons_zero, List.set_cons_succ, getD_zero, getD_succ, List.getElem?_cons_succ, List.getElem?_cons_zero, List.take_succ_cons, List.take_zero, List.drop_succ_cons, List.drop_zero, List.all_cons, List.all_nil, Bool.and_true, Bool.true_and, Option.bind_some, Option.map_some, Option.map_none, decide_eq_true_eq, decide_eq_false_iff_not, ne_eq, Bool.not_eq_true, Bool.not_eq_false, Decidable.not_not, not_true_eq_false, not_false_eq_true, forall_const, false_implies, Bool.true_eq_false, Bool.false_eq_true, reduceCtorEq, decide_true, decide_false, Bool.not_true, Bool.not_false, if_true, if_false, Nat.zero_add, Nat.lt_irrefl, Value.oneCell', gt_iff_lt, Nat.reduceLeDiff, Nat.lt_add_one, List.length_append, vSealSl, vMakeMap, vLookup, vMapUpd, vMapEnt, vEntSt, vRange, vEntry, KK.of, KK.av, lkRes, entry_last, vvar_1, vzero_1, vvar_2, vzero_2, vknd_2, vsn_2, vvar_3, vzero_3, vknd_3, vsn_3, vvar_4, vzero_4, vknd_4, vsn_4, vsl_22, vkn_22, vvar_22, vzero_22, vvar_27, vzero_27, vbld_27, vsl_44, vkn_44, vvar_44, vzero_44, vvar_53, vzero_53, vfld_27_0, vfld_27_1, hgb]; try simp (disch := omega) only [wrap64])
          | (with_reducible refine hK' _ ?_; clear hK' K')
          | (with_reducible refine hK _ ?_; clear hK K)
          | (with_reducible refine And.intro (And.intro rfl rfl) ?_)
          | (with_reducible refine And.intro (by omega) ?_)
          | (with_reducible refine And.intro (fun hg => ?_) (fun hg => ?_) <;> first | simp only [eq_false hg, decide_true, decide_false, and_true, true_and, and_false, false_and, not_true_eq_false, not_false_eq_true] | simp only [eq_true hg, decide_true, decide_false, and_true, true_and, and_false, false_and, not_true_eq_false, not_false_eq_true] | simp only [hg, decide_true, decide_false, and_true, true_and, and_false, false_and, not_true_eq_false, not_false_eq_true])
          | (with_reducible refine And.intro rfl (And.intro rfl rfl))
          | (with_reducible refine thenQ_n ?_)
          | (with_reducible refine thenQ_exit ?_)
          | (with_reducible refine thenQ_ret ?_)
          | (with_reducible refine midQ_ret ?_)
          | (with_reducible refine midQ_exit ?_)
          | (with_reducible refine blockQ_same ?_)
          | (with_reducible refine blockQ_ret ?_)
          | (with_reducible refine blockQ_n ?_)
          | (with_reducible refine AW.exit ?_)
          | (with_reducible refine AW.block ?_)
          | (with_reducible refine AW.cond_t rfl ?_)
          | (with_reducible refine AW.cond_f rfl ?_)
          | (with_reducible refine AW.cond_dec rfl (fun hc => ?_) (fun hc => ?_))
          | (with_reducible refine AW.cond rfl (fun hc => ?_) (fun hc => ?_) <;> try simp only [Bool.not_eq_eq_eq_not, Bool.not_true, Bool.not_false, decide_eq_true_eq, decide_eq_false_iff_not] at hc)
          | (with_reducible refine AW.seq ?_)
          | (with_reducible refine AW.skip ?_)
          | (with_reducible refine AW.ret ?_)
          | (with_reducible refine And.intro ?_ ?_)
          | (with_reducible intro hg; first | simp only [eq_false hg, decide_true, decide_false, and_true, true_and, and_false, false_and, not_true_eq_false, not_false_eq_true] | simp only [eq_true hg, decide_true, decide_false, and_true, true_and, and_false, false_and, not_true_eq_false, not_false_eq_true])
          | (with_reducible refine retQ_drop ?_; simp only [vRes, packRes, vLoad, vPart, lk, cond, Nat.reduceBEq, get_loc, getD_zero, getD_succ, true_and, List.length_cons, List.length_nil, Nat.reduceAdd, Nat.reduceLT, Nat.reduceLeDiff, List.take_succ_cons, List.take_zero, List.drop_succ_cons, List.drop_zero, vvar_1, vzero_1, vvar_2, vzero_2, vknd_2, vsn_2, vvar_3, vzero_3, vknd_3, vsn_3, vvar_4, vzero_4, vknd_4, vsn_4, vsl_22, vkn_22, vvar_22, vzero_22, vvar_27, vzero_27, vbld_27, vsl_44, vkn_44, vvar_44, vzero_44, vvar_53, vzero_53, vfld_27_0, vfld_27_1])
          )
        all_goals first
          | (exfalso; omega)
          | exact ⟨i + 1, by omega, by omega, (Weak.slots (by repeat' first | exact trivial | exact ⟨rfl, trivial⟩ | refine ⟨rfl, ?_⟩))⟩
          | fail
    · exfalso; omega
  · obtain rfl : i = (nets c).length := by omega
    repeat' (first
      | (with_reducible refine AW.sreg envOk fun K hK => ?_)
      | (with_reducible refine AW.region envOk fun K hK => ?_)
      | (with_reducible refine AW.d0reg envOk mixed ?_ ?_ fun K hK => ?_; (first | rfl | exact base_len | exact base_len0); kernel_rfl)
      | (with_reducible refine AW.d0 envOk mixed ?_ ?_ fun K hK => ?_; (first | rfl | exact base_len | exact base_len0); kernel_rfl)
      | (with_reducible refine vcD_nil ?_)
      | (with_reducible refine vcL_nil ?_)
      | (with_reducible (first | refine vcD_cons fun K' hK' => ?_ | refine vcL_cons fun K' hK' => ?_); simp only [isC, Bool.false_or, Bool.or_true, vAppend, elems, ↓reduceDIte, List.take_length, Nat.le_refl, List.drop_zero, vGuard, undef, Bool.not_eq_eq_eq_not, dstOk, vcOp, vcF, isPure, putS, vcCall, St.ev, St.put, lk, AVal.ofVal, initS, Nat.reduceLT, true_and, and_true, vBin, vUn, vPick, vConv, vPart, vLoad, vStore, vIdxA, vIdx, vFldA, vExt, vLen, vMin, vNil, vAlloc, vBox, vBuild, vBuildSl, vMake, vSlice, bnd, partsA, fillA, decAll, AVal.flat, AVal.cell, cellsOk, setRange, ETy.enc, ETy.dec, ETy.sz, ETy.d, cond, Nat.reduceBEq, Nat.reduceAdd, Int.toNat_natCast, List.length_set, List.length_append, List.length_replicate, List.length_take, Nat.reduceSub, Nat.reduceEqDiff, get_loc, setBox_loc, next_eq, List.length_cons, List.length_nil, List.map_cons, List.map_nil, List.append_nil, List.nil_append, List.cons_append, List.set_cons_zero, List.set_cons_succ, getD_zero, getD_succ, List.getElem?_cons_succ, List.getElem?_cons_zero, List.take_succ_cons, List.take_zero, List.drop_succ_cons, List.drop_zero, List.all_cons, List.all_nil, Bool.and_true, Bool.true_and, Option.bind_some, Option.map_some, Option.map_none, decide_eq_true_eq, decide_eq_false_iff_not, ne_eq, Bool.not_eq_true, Bool.not_eq_false, Decidable.not_not, not_true_eq_false, not_false_eq_true, forall_const, false_implies, Bool.true_eq_false, Bool.false_eq_true, reduceCtorEq, decide_true, decide_false, Bool.not_true, Bool.not_false, if_true, if_false, Nat.zero_add, Nat.lt_irrefl, Value.oneCell', gt_iff_lt, Nat.reduceLeDiff, Nat.lt_add_one, List.length_append, vSealSl, vMakeMap, vLookup, vMapUpd, vMapEnt, vEntSt, vRange, vEntry, KK.of, KK.av, lkRes, entry_last, vvar_1, vzero_1, vvar_2, vzero_2, vknd_2, vsn_2, vvar_3, vzero_3, vknd_3, vsn_3, vvar_4, vzero_4, vknd_4, vsn_4, vsl_22, vkn_22, vvar_22, vzero_22, vvar_27, vzero_27, vbld_27, vsl_44, vkn_44, vvar_44, vzero_44, vvar_53, vzero_53, vfld_27_0, vfld_27_1, hgb]; try simp (disch := omega) only [wrap64])
      | (with_reducible refine hK' _ ?_; clear hK' K')
      | (with_reducible refine hK _ ?_; clear hK K)
      | (with_reducible refine And.intro (And.intro rfl rfl) ?_)
      | (with_reducible refine And.intro (by omega) ?_)
      | (with_reducible refine And.intro (fun hg => ?_) (fun hg => ?_) <;> first | simp only [eq_false hg, decide_true, decide_false, and_true, true_and, and_false, false_and, not_true_eq_false, not_false_eq_true] | simp only [eq_true hg, decide_true, decide_false, and_true, true_and, and_false, false_and, not_true_eq_false, not_false_eq_true] | simp only [hg, decide_true, decide_false, and_true, true_and, and_false, false_and, not_true_eq_false, not_false_eq_true])
      | (with_reducible refine And.intro rfl (And.intro rfl rfl))
      | (with_reducible refine thenQ_n ?_)
      | (with_reducible refine thenQ_exit ?_)
      | (with_reducible refine thenQ_ret ?_)
      | (with_reducible refine midQ_ret ?_)
      | (with_reducible refine midQ_exit ?_)
      | (with_reducible refine blockQ_same ?_)
      | (with_reducible refine blockQ_ret ?_)
      | (with_reducible refine blockQ_n ?_)
      | (with_reducible refine AW.exit ?_)
      | (with_reducible refine AW.block ?_)
      | (with_reducible refine AW.cond_t rfl ?_)
      | (with_reducible refine AW.cond_f rfl ?_)
      | (with_reducible refine AW.cond_dec rfl (fun hc => ?_) (fun hc => ?_))
      | (with_reducible refine AW.cond rfl (fun hc => ?_) (fun hc => ?_) <;> try simp only [Bool.not_eq_eq_eq_not, Bool.not_true, Bool.not_false, decide_eq_true_eq, decide_eq_false_iff_not] at hc)
      | (with_reducible refine AW.seq ?_)
      | (with_reducible refine AW.skip ?_)
      | (with_reducible refine AW.ret ?_)
      | (with_reducible refine And.intro ?_ ?_)
      | (with_reducible intro hg; first | simp only [eq_false hg, decide_true, decide_false, and_true, true_and, and_false, false_and, not_true_eq_false, not_false_eq_true] | simp only [eq_true hg, decide_true, decide_false, and_true, true_and, and_false, false_and, not_true_eq_false, not_false_eq_true])
      | (with_reducible refine retQ_drop ?_; simp only [vRes, packRes, vLoad, vPart, lk, cond, Nat.reduceBEq, get_loc, getD_zero, getD_succ, true_and, List.length_cons, List.length_nil, Nat.reduceAdd, Nat.reduceLT, Nat.reduceLeDiff, List.take_succ_cons, List.take_zero, List.drop_succ_cons, List.drop_zero, vvar_1, vzero_1, vvar_2, vzero_2, vknd_2, vsn_2, vvar_3, vzero_3, vknd_3, vsn_3, vvar_4, vzero_4, vknd_4, vsn_4, vsl_22, vkn_22, vvar_22, vzero_22, vvar_27, vzero_27, vbld_27, vsl_44, vkn_44, vvar_44, vzero_44, vvar_53, vzero_53, vfld_27_0, vfld_27_1])
      )
    all_goals first
      | (exfalso; omega)
      | exact ⟨_, _, FinOk.keep [0] (L := [.row false (.sli .i64) (pieces c)]) hB (by decide) ⟨RenB.plRow rfl, by simp, trivial⟩ (RenV.sl (j := 0) rfl), rfl, rfl⟩
      | fail
/-- The pieces known when the i-th net's first k columns are paired. -/
def pks (c : Ch) (i k : Nat) : Mz := piecesTo c i ++ pairsL ((nets c).getD i 0) ((cols c ((nets c).getD i 0)).take k)
theorem pks_one {c : Ch} {i : Nat} : pks c i 1 = piecesTo c i := by
  unfold pks
  match cols c ((nets c).getD i 0) with
  | [] => simp [pairsL]
  | a :: r => simp [pairsL]
theorem pks_all {c : Ch} {i : Nat} (h : i < (nets c).length) : pks c i (cols c ((nets c).getD i 0)).length = piecesTo c (i + 1) := by
  unfold pks
  rw [List.take_length, piecesTo_succ c h]
theorem pks_next {c : Ch} {i k : Nat} (h0 : 1 ≤ k) (h : k < (cols c ((nets c).getD i 0)).length) :
    pks c i (k + 1) = pks c i k ++ [[(nets c).getD i 0, (cols c ((nets c).getD i 0)).getD (k - 1) 0, (cols c ((nets c).getD i 0)).getD k 0]] := by
  unfold pks
  have hne : (cols c ((nets c).getD i 0)).take k ≠ [] := fun e => by
    have := congrArg List.length e
    simp only [List.length_take, List.length_nil] at this; omega
  have hl : ((cols c ((nets c).getD i 0)).take k).length = k := by rw [List.length_take]; omega
  rw [take_snoc h, pairsL_snoc _ _ _ hne, hl, List.append_assoc]
  have e : ((cols c ((nets c).getD i 0)).take k).getD (k - 1) 0 = (cols c ((nets c).getD i 0)).getD (k - 1) 0 := by
    simp [List.getD, show k - 1 < k by omega]
  rw [e]
theorem pks_le {c : Ch} (hx : c.1.length ≤ 1000) {i k : Nat} (hi : i ≤ (nets c).length) : (pks c i k).length ≤ 1000 * i + 1000 := by
  have h1 := piecesTo_le hx i hi
  have h2 := colsTo_len c ((nets c).getD i 0) c.1.length
  unfold pks
  rw [List.length_append, pairsL_len, List.length_take]
  unfold cols
  omega
theorem nets58p_ac (c : Ch) (hx : c.1.length ≤ 2000000) (hy : c.2.length = c.1.length) {H : List ABox} {kc : Nat} (h : H[kc]? = some (.box false [.rd (.int .i64) c.1, .rd (.int .i64) c.2])) :
    AC Try.prog 58 [.ptr 1 kc 0 0] H (fun r H' => r = .sl 1 H.length 0 (nets c).length ∧ H' = H ++ [.row false (.int .i64) (nets c)]) := AC.lentN (args' := [.rp [.rd (.int .i64) (c).1, .rd (.int .i64) (c).2] 0]) (by simp only [killAll_length]) ⟨lentC h, trivial⟩ (by (repeat' (first | exact NoRd.v _ | exact NoRd.sl | exact NoRd.mp | exact NoRd.tup nord_nil | refine NoRd.tup ?_ | refine NoRd.agg ?_ | exact nord_nil | refine nord_cons ?_ ?_)); (first | done | fail)) (by (repeat' (first | exact nordW_nil | refine nordW_cons ?_ ?_ | exact And.intro rfl rfl | exact trivial)); (first | done | fail)) (nets58_ac c hx hy _)
theorem cols55p_ac (c : Ch) (net : Int) (hx : c.1.length ≤ 2000000) (hy : c.2.length = c.1.length) {H : List ABox} {kc : Nat} (h : H[kc]? = some (.box false [.rd (.int .i64) c.1, .rd (.int .i64) c.2])) :
    AC Try.prog 55 [.ptr 1 kc 0 0, .v (.int .i64 (net))] H (fun r H' => r = .sl 1 H.length 0 (cols c net).length ∧ H' = H ++ [.row false (.int .i64) (cols c net)]) := AC.lentN (args' := [.rp [.rd (.int .i64) (c).1, .rd (.int .i64) (c).2] 0, .v (.int .i64 (net))]) (by simp only [killAll_length]) ⟨lentC h, .same _, trivial⟩ (by (repeat' (first | exact NoRd.v _ | exact NoRd.sl | exact NoRd.mp | exact NoRd.tup nord_nil | refine NoRd.tup ?_ | refine NoRd.agg ?_ | exact nord_nil | refine nord_cons ?_ ?_)); (first | done | fail)) (by (repeat' (first | exact nordW_nil | refine nordW_cons ?_ ?_ | exact And.intro rfl rfl | exact trivial)); (first | done | fail)) (cols55_ac c net hx hy _)
theorem pieces65p_ac (c : Ch) (hx : c.1.length ≤ 1000) (hy : c.2.length = c.1.length) {H : List ABox} {kc : Nat} (hkc : H[kc]? = some (.box false [.rd (.int .i64) c.1, .rd (.int .i64) c.2])) : AC Try.prog 65 [.ptr 1 kc 0 0] H (fun r H' => r = .sl 1 H.length 0 (pieces c).length ∧ H' = H ++ [.row false (.sli .i64) (pieces c)]) := by
  have hn := nets_len c
  have hkl : kc < H.length := (List.getElem?_eq_some_iff.1 hkc).1
  refine AC.enter envOk Try.func65 rfl (by decide) Try.ntmps65 Try.results65 (by simp) fun hB => ?_
  repeat' (first
    | (with_reducible refine AW.dreg (id := 9) envOk mixed [(false, 0, 2), (false, 0, 0), (false, 0, 0), (false, 0, 0), (false, 0, 0), (false, 0, 0), (false, 0, 0), (false, 0, 0), (false, 0, 0), (false, 0, 0), (false, 0, 0), (true, 0, 0), (true, 0, 0), (true, 0, 0), (false, 3, 3)] ?_ ?_ fun K hK => ?_; kernel_rfl; (first | rfl | exact base_len | exact base_len0))
    | (with_reducible refine AW.dregion (id := 9) envOk mixed [(false, 0, 2), (false, 0, 0), (false, 0, 0), (false, 0, 0), (false, 0, 0), (false, 0, 0), (false, 0, 0), (false, 0, 0), (false, 0, 0), (false, 0, 0), (false, 0, 0), (true, 0, 0), (true, 0, 0), (true, 0, 0), (false, 3, 3)] ?_ ?_ fun K hK => ?_; kernel_rfl; (first | rfl | exact base_len | exact base_len0))
    | (with_reducible refine vcDr_nil ?_)
    | (with_reducible refine hK' _ _ _ _ _ ?_; clear hK' K')
    | (with_reducible refine hK _ _ ?_; clear hK K; dsimp only)
    | (with_reducible refine AW.sreg envOk fun K hK => ?_)
    | (with_reducible refine AW.region envOk fun K hK => ?_)
    | (with_reducible refine AW.d0reg envOk mixed ?_ ?_ fun K hK => ?_; (first | rfl | exact base_len | exact base_len0); kernel_rfl)
    | (with_reducible refine AW.d0 envOk mixed ?_ ?_ fun K hK => ?_; (first | rfl | exact base_len | exact base_len0); kernel_rfl)
    | (with_reducible refine vcD_nil ?_)
    | (with_reducible refine vcL_nil ?_)
    | (with_reducible (first | refine vcDr_cons fun K' hK' => ?_ | refine vcD_cons fun K' hK' => ?_ | refine vcL_cons fun K' hK' => ?_); simp only [isC, Bool.false_or, Bool.or_true, vAppend, elems, ↓reduceDIte, List.take_length, Nat.le_refl, List.drop_zero, vGuard, undef, Bool.not_eq_eq_eq_not, dstOk, vcOp, vcF, isPure, putS, vcCall, St.ev, St.put, lk, AVal.ofVal, initS, Nat.reduceLT, true_and, and_true, vBin, vUn, vPick, vConv, vPart, vLoad, vStore, vIdxA, vIdx, vFldA, vExt, vLen, vMin, vNil, vAlloc, vBox, vBuild, vBuildSl, vMake, vSlice, bnd, partsA, fillA, decAll, AVal.flat, AVal.cell, cellsOk, setRange, ETy.enc, ETy.dec, ETy.sz, ETy.d, cond, Nat.reduceBEq, Nat.reduceAdd, Int.toNat_natCast, List.length_set, List.length_append, List.length_replicate, List.length_take, Nat.reduceSub, Nat.reduceEqDiff, get_loc, setBox_loc, next_eq, List.length_cons, List.length_nil, List.map_cons, List.map_nil, List.append_nil, List.nil_append, List.cons_append, List.set_cons_zero, List.set_cons_succ, getD_zero, getD_succ, List.getElem?_cons_succ, List.getElem?_cons_zero, List.take_succ_cons, List.take_zero, List.drop_succ_cons, List.drop_zero, List.all_cons, List.all_nil, Bool.and_true, Bool.true_and, Option.bind_some, Option.map_some, Option.map_none, decide_eq_true_eq, decide_eq_false_iff_not, ne_eq, Bool.not_eq_true, Bool.not_eq_false, Decidable.not_not, not_true_eq_false, not_false_eq_true, forall_const, false_implies, Bool.true_eq_false, Bool.false_eq_true, reduceCtorEq, decide_true, decide_false, Bool.not_true, Bool.not_false, if_true, if_false, Nat.zero_add, Nat.lt_irrefl, Value.oneCell', gt_iff_lt, Nat.reduceLeDiff, Nat.lt_add_one, List.length_append, vSealSl, vMakeMap, vLookup, vMapUpd, vMapEnt, vEntSt, vRange, vEntry, KK.of, KK.av, lkRes, entry_last, vvar_1, vzero_1, vvar_2, vzero_2, vknd_2, vsn_2, vvar_3, vzero_3, vknd_3, vsn_3, vvar_4, vzero_4, vknd_4, vsn_4, vsl_22, vkn_22, vvar_22, vzero_22, vsl_44, vkn_44, vvar_44, vzero_44, vvar_53, vzero_53, effI, loI, hiI, pendOk, pastOk, OpOK, Nat.not_lt_zero, Nat.le_zero_eq, Nat.add_eq_zero_iff, Nat.one_ne_zero, and_false, Nat.zero_le, true_implies]; try simp (disch := omega) only [wrap64])
    | (with_reducible refine hK' _ ?_; clear hK' K')
    | (with_reducible refine hK _ ?_; clear hK K)
    | ((with_reducible show vCall _ (AVal.fn 58 _) _ _ _); refine vCall_newE (nets58p_ac c (by omega) hy (getC hkc)) (by simp only [List.length_append, List.length_cons, List.length_nil, Nat.reduceAdd]; rfl) ?_)
    | (with_reducible refine And.intro (And.intro rfl rfl) ?_)
    | (with_reducible refine And.intro (by omega) ?_)
    | (with_reducible refine And.intro (fun hg => ?_) (fun hg => ?_) <;> first | simp only [eq_false hg, decide_true, decide_false, and_true, true_and, and_false, false_and, not_true_eq_false, not_false_eq_true] | simp only [eq_true hg, decide_true, decide_false, and_true, true_and, and_false, false_and, not_true_eq_false, not_false_eq_true] | simp only [hg, decide_true, decide_false, and_true, true_and, and_false, false_and, not_true_eq_false, not_false_eq_true])
    | (with_reducible refine And.intro rfl (And.intro rfl rfl))
    | (with_reducible refine thenQ_n ?_)
    | (with_reducible refine thenQ_exit ?_)
    | (with_reducible refine thenQ_ret ?_)
    | (with_reducible refine midQ_ret ?_)
    | (with_reducible refine midQ_exit ?_)
    | (with_reducible refine blockQ_same ?_)
    | (with_reducible refine blockQ_ret ?_)
    | (with_reducible refine blockQ_n ?_)
    | (with_reducible refine AW.exit ?_)
    | (with_reducible refine AW.block ?_)
    | (with_reducible refine AW.cond_t rfl ?_)
    | (with_reducible refine AW.cond_f rfl ?_)
    | (with_reducible refine AW.cond_dec rfl (fun hc => ?_) (fun hc => ?_))
    | (with_reducible refine AW.cond rfl (fun hc => ?_) (fun hc => ?_) <;> try simp only [Bool.not_eq_eq_eq_not, Bool.not_true, Bool.not_false, decide_eq_true_eq, decide_eq_false_iff_not] at hc)
    | (with_reducible refine AW.seq ?_)
    | (with_reducible refine AW.skip ?_)
    | (with_reducible refine AW.ret ?_)
    | (with_reducible refine And.intro ?_ ?_)
    | (with_reducible intro hg; first | simp only [eq_false hg, decide_true, decide_false, and_true, true_and, and_false, false_and, not_true_eq_false, not_false_eq_true] | simp only [eq_true hg, decide_true, decide_false, and_true, true_and, and_false, false_and, not_true_eq_false, not_false_eq_true])
    | (with_reducible refine retQ_drop ?_; simp only [vRes, packRes, vLoad, vPart, lk, cond, Nat.reduceBEq, get_loc, getD_zero, getD_succ, true_and, List.length_cons, List.length_nil, Nat.reduceAdd, Nat.reduceLT, Nat.reduceLeDiff, List.take_succ_cons, List.take_zero, List.drop_succ_cons, List.drop_zero, vvar_1, vzero_1, vvar_2, vzero_2, vknd_2, vsn_2, vvar_3, vzero_3, vknd_3, vsn_3, vvar_4, vzero_4, vknd_4, vsn_4, vsl_22, vkn_22, vvar_22, vzero_22, vsl_44, vkn_44, vvar_44, vzero_44, vvar_53, vzero_53])
    )
  refine AW.loop (fun i : Nat => (⟨41, [(0, .ptr 1 kc 0 0), (3, .sl 1 (H.length + 0) 0 ((piecesTo c i).length)), (10, .sl 1 (H.length + 1) 0 ((nets c).length)), (11, .v (.int .i64 (((nets c).length : Int)))), (12, .v (.int .i64 ((i : Int))))], H, [.row false (.sli .i64) (piecesTo c i), .row false (.int .i64) (nets c)]⟩ : St)) (fun i => i ≤ (nets c).length) (fun i => (nets c).length - i) 0 (Nat.zero_le _) ?_ ?_
  · rw [piecesTo_zero]
    exact (Weak.slots (by repeat' first | exact trivial | exact ⟨rfl, trivial⟩ | refine ⟨rfl, ?_⟩))
  intro i hi
  by_cases hin : i < (nets c).length
  · have hcl : 1 < (cols c ((nets c).getD i 0)).length := (nets_mem c (nets_getD c hin)).2.2
    have hcn : (cols c ((nets c).getD i 0)).length ≤ 1000 := by
      have := colsTo_len c ((nets c).getD i 0) c.1.length
      unfold cols; omega
    repeat' (first
      | (with_reducible refine AW.dreg (id := 9) envOk mixed [(false, 0, 2), (false, 0, 0), (false, 0, 0), (false, 0, 0), (false, 0, 0), (false, 0, 0), (false, 0, 0), (false, 0, 0), (false, 0, 0), (false, 0, 0), (false, 0, 0), (true, 0, 0), (true, 0, 0), (true, 0, 0), (false, 3, 3)] ?_ ?_ fun K hK => ?_; kernel_rfl; (first | rfl | exact base_len | exact base_len0))
      | (with_reducible refine AW.dregion (id := 9) envOk mixed [(false, 0, 2), (false, 0, 0), (false, 0, 0), (false, 0, 0), (false, 0, 0), (false, 0, 0), (false, 0, 0), (false, 0, 0), (false, 0, 0), (false, 0, 0), (false, 0, 0), (true, 0, 0), (true, 0, 0), (true, 0, 0), (false, 3, 3)] ?_ ?_ fun K hK => ?_; kernel_rfl; (first | rfl | exact base_len | exact base_len0))
      | (with_reducible refine vcDr_nil ?_)
      | (with_reducible refine hK' _ _ _ _ _ ?_; clear hK' K')
      | (with_reducible refine hK _ _ ?_; clear hK K; dsimp only)
      | (with_reducible refine AW.sreg envOk fun K hK => ?_)
      | (with_reducible refine AW.region envOk fun K hK => ?_)
      | (with_reducible refine AW.d0reg envOk mixed ?_ ?_ fun K hK => ?_; (first | rfl | exact base_len | exact base_len0); kernel_rfl)
      | (with_reducible refine AW.d0 envOk mixed ?_ ?_ fun K hK => ?_; (first | rfl | exact base_len | exact base_len0); kernel_rfl)
      | (with_reducible refine vcD_nil ?_)
      | (with_reducible refine vcL_nil ?_)
      | (with_reducible (first | refine vcDr_cons fun K' hK' => ?_ | refine vcD_cons fun K' hK' => ?_ | refine vcL_cons fun K' hK' => ?_); simp only [isC, Bool.false_or, Bool.or_true, vAppend, elems, ↓reduceDIte, List.take_length, Nat.le_refl, List.drop_zero, vGuard, undef, Bool.not_eq_eq_eq_not, dstOk, vcOp, vcF, isPure, putS, vcCall, St.ev, St.put, lk, AVal.ofVal, initS, Nat.reduceLT, true_and, and_true, vBin, vUn, vPick, vConv, vPart, vLoad, vStore, vIdxA, vIdx, vFldA, vExt, vLen, vMin, vNil, vAlloc, vBox, vBuild, vBuildSl, vMake, vSlice, bnd, partsA, fillA, decAll, AVal.flat, AVal.cell, cellsOk, setRange, ETy.enc, ETy.dec, ETy.sz, ETy.d, cond, Nat.reduceBEq, Nat.reduceAdd, Int.toNat_natCast, List.length_set, List.length_append, List.length_replicate, List.length_take, Nat.reduceSub, Nat.reduceEqDiff, get_loc, setBox_loc, next_eq, List.length_cons, List.length_nil, List.map_cons, List.map_nil, List.append_nil, List.nil_append, List.cons_append, List.set_cons_zero, List.set_cons_succ, getD_zero, getD_succ, List.getElem?_cons_succ, List.getElem?_cons_zero, List.take_succ_cons, List.take_zero, List.drop_succ_cons, List.drop_zero, List.all_cons, List.all_nil, Bool.and_true, Bool.true_and, Option.bind_some, Option.map_some, Option.map_none, decide_eq_true_eq, decide_eq_false_iff_not, ne_eq, Bool.not_eq_true, Bool.not_eq_false, Decidable.not_not, not_true_eq_false, not_false_eq_true, forall_const, false_implies, Bool.true_eq_false, Bool.false_eq_true, reduceCtorEq, decide_true, decide_false, Bool.not_true, Bool.not_false, if_true, if_false, Nat.zero_add, Nat.lt_irrefl, Value.oneCell', gt_iff_lt, Nat.reduceLeDiff, Nat.lt_add_one, List.length_append, vSealSl, vMakeMap, vLookup, vMapUpd, vMapEnt, vEntSt, vRange, vEntry, KK.of, KK.av, lkRes, entry_last, vvar_1, vzero_1, vvar_2, vzero_2, vknd_2, vsn_2, vvar_3, vzero_3, vknd_3, vsn_3, vvar_4, vzero_4, vknd_4, vsn_4, vsl_22, vkn_22, vvar_22, vzero_22, vsl_44, vkn_44, vvar_44, vzero_44, vvar_53, vzero_53, effI, loI, hiI, pendOk, pastOk, OpOK, Nat.not_lt_zero, Nat.le_zero_eq, Nat.add_eq_zero_iff, Nat.one_ne_zero, and_false, Nat.zero_le, true_implies]; try simp (disch := omega) only [wrap64])
      | (with_reducible refine hK' _ ?_; clear hK' K')
      | (with_reducible refine hK _ ?_; clear hK K)
      | ((with_reducible show vCall _ (AVal.fn 55 _) _ _ _); refine vCall_newE (cols55p_ac c _ (by omega) hy (getC hkc)) (by simp only [List.length_append, List.length_cons, List.length_nil, Nat.reduceAdd]; rfl) ?_)
      | (with_reducible refine And.intro (And.intro rfl rfl) ?_)
      | (with_reducible refine And.intro (by omega) ?_)
      | (with_reducible refine And.intro (fun hg => ?_) (fun hg => ?_) <;> first | simp only [eq_false hg, decide_true, decide_false, and_true, true_and, and_false, false_and, not_true_eq_false, not_false_eq_true] | simp only [eq_true hg, decide_true, decide_false, and_true, true_and, and_false, false_and, not_true_eq_false, not_false_eq_true] | simp only [hg, decide_true, decide_false, and_true, true_and, and_false, false_and, not_true_eq_false, not_false_eq_true])
      | (with_reducible refine And.intro rfl (And.intro rfl rfl))
      | (with_reducible refine thenQ_n ?_)
      | (with_reducible refine thenQ_exit ?_)
      | (with_reducible refine thenQ_ret ?_)
      | (with_reducible refine midQ_ret ?_)
      | (with_reducible refine midQ_exit ?_)
      | (with_reducible refine blockQ_same ?_)
      | (with_reducible refine blockQ_ret ?_)
      | (with_reducible refine blockQ_n ?_)
      | (with_reducible refine AW.exit ?_)
      | (with_reducible refine AW.block ?_)
      | (with_reducible refine AW.cond_t rfl ?_)
      | (with_reducible refine AW.cond_f rfl ?_)
      | (with_reducible refine AW.cond_dec rfl (fun hc => ?_) (fun hc => ?_))
      | (with_reducible refine AW.cond rfl (fun hc => ?_) (fun hc => ?_) <;> try simp only [Bool.not_eq_eq_eq_not, Bool.not_true, Bool.not_false, decide_eq_true_eq, decide_eq_false_iff_not] at hc)
      | (with_reducible refine AW.seq ?_)
      | (with_reducible refine AW.skip ?_)
      | (with_reducible refine AW.ret ?_)
      | (with_reducible refine And.intro ?_ ?_)
      | (with_reducible intro hg; first | simp only [eq_false hg, decide_true, decide_false, and_true, true_and, and_false, false_and, not_true_eq_false, not_false_eq_true] | simp only [eq_true hg, decide_true, decide_false, and_true, true_and, and_false, false_and, not_true_eq_false, not_false_eq_true])
      | (with_reducible refine retQ_drop ?_; simp only [vRes, packRes, vLoad, vPart, lk, cond, Nat.reduceBEq, get_loc, getD_zero, getD_succ, true_and, List.length_cons, List.length_nil, Nat.reduceAdd, Nat.reduceLT, Nat.reduceLeDiff, List.take_succ_cons, List.take_zero, List.drop_succ_cons, List.drop_zero, vvar_1, vzero_1, vvar_2, vzero_2, vknd_2, vsn_2, vvar_3, vzero_3, vknd_3, vsn_3, vvar_4, vzero_4, vknd_4, vsn_4, vsl_22, vkn_22, vvar_22, vzero_22, vsl_44, vkn_44, vvar_44, vzero_44, vvar_53, vzero_53])
      )
    · refine AW.loop (fun k : Nat => (⟨41, [(0, .ptr 1 kc 0 0), (3, .sl 1 (H.length + 0) 0 ((pks c i k).length)), (5, .v (.int .i64 ((nets c).getD i 0))), (6, .sl 1 (H.length + 2) 0 ((cols c ((nets c).getD i 0)).length)), (7, .v (.int .i64 ((k : Int)))), (10, .sl 1 (H.length + 1) 0 ((nets c).length)), (11, .v (.int .i64 (((nets c).length : Int)))), (12, .v (.int .i64 ((i : Int))))], H, [.row false (.sli .i64) (pks c i k), .row false (.int .i64) (nets c), .row false (.int .i64) (cols c ((nets c).getD i 0))]⟩ : St)) (fun k => 1 ≤ k ∧ k ≤ (cols c ((nets c).getD i 0)).length) (fun k => (cols c ((nets c).getD i 0)).length - k) 1 ⟨Nat.le_refl _, by omega⟩ ?_ ?_
      · rw [pks_one]
        exact (Weak.slots (by repeat' first | exact trivial | exact ⟨rfl, trivial⟩ | refine ⟨rfl, ?_⟩))
      intro k ⟨hk1, hk⟩
      have hpl := pks_le hx (i := i) (k := k) (by omega)
      have htk : (pks c i k).take (pks c i k).length = pks c i k := List.take_of_length_le (Nat.le_refl _)
      by_cases hkn : k < (cols c ((nets c).getD i 0)).length
      · have hk3 : ((k : Int) - 1).toNat = k - 1 := by omega
        repeat' (first
          | (with_reducible refine AW.dreg (id := 9) envOk mixed [(false, 0, 2), (false, 0, 0), (false, 0, 0), (false, 0, 0), (false, 0, 0), (false, 0, 0), (false, 0, 0), (false, 0, 0), (false, 0, 0), (false, 0, 0), (false, 0, 0), (true, 0, 0), (true, 0, 0), (true, 0, 0), (false, 3, 3)] ?_ ?_ fun K hK => ?_; kernel_rfl; (first | rfl | exact base_len | exact base_len0))
          | (with_reducible refine AW.dregion (id := 9) envOk mixed [(false, 0, 2), (false, 0, 0), (false, 0, 0), (false, 0, 0), (false, 0, 0), (false, 0, 0), (false, 0, 0), (false, 0, 0), (false, 0, 0), (false, 0, 0), (false, 0, 0), (true, 0, 0), (true, 0, 0), (true, 0, 0), (false, 3, 3)] ?_ ?_ fun K hK => ?_; kernel_rfl; (first | rfl | exact base_len | exact base_len0))
          | (with_reducible refine vcDr_nil ?_)
          | (with_reducible refine hK' _ _ _ _ _ ?_; clear hK' K')
          | (with_reducible refine hK _ _ ?_; clear hK K; dsimp only)
          | (with_reducible refine AW.sreg envOk fun K hK => ?_)
          | (with_reducible refine AW.region envOk fun K hK => ?_)
          | (with_reducible refine AW.d0reg envOk mixed ?_ ?_ fun K hK => ?_; (first | rfl | exact base_len | exact base_len0); kernel_rfl)
          | (with_reducible refine AW.d0 envOk mixed ?_ ?_ fun K hK => ?_; (first | rfl | exact base_len | exact base_len0); kernel_rfl)
          | (with_reducible refine vcD_nil ?_)
          | (with_reducible refine vcL_nil ?_)
          | (with_reducible (first | refine vcDr_cons fun K' hK' => ?_ | refine vcD_cons fun K' hK' => ?_ | refine vcL_cons fun K' hK' => ?_); simp only [isC, Bool.false_or, Bool.or_true, vAppend, elems, ↓reduceDIte, List.take_length, Nat.le_refl, List.drop_zero, vGuard, undef, Bool.not_eq_eq_eq_not, dstOk, vcOp, vcF, isPure, putS, vcCall, St.ev, St.put, lk, AVal.ofVal, initS, Nat.reduceLT, true_and, and_true, vBin, vUn, vPick, vConv, vPart, vLoad, vStore, vIdxA, vIdx, vFldA, vExt, vLen, vMin, vNil, vAlloc, vBox, vBuild, vBuildSl, vMake, vSlice, bnd, partsA, fillA, decAll, AVal.flat, AVal.cell, cellsOk, setRange, ETy.enc, ETy.dec, ETy.sz, ETy.d, cond, Nat.reduceBEq, Nat.reduceAdd, Int.toNat_natCast, List.length_set, List.length_append, List.length_replicate, List.length_take, Nat.reduceSub, Nat.reduceEqDiff, get_loc, setBox_loc, next_eq, List.length_cons, List.length_nil, List.map_cons, List.map_nil, List.append_nil, List.nil_append, List.cons_append, List.set_cons_zero, List.set_cons_succ, getD_zero, getD_succ, List.getElem?_cons_succ, List.getElem?_cons_zero, List.take_succ_cons, List.take_zero, List.drop_succ_cons, List.drop_zero, List.all_cons, List.all_nil, Bool.and_true, Bool.true_and, Option.bind_some, Option.map_some, Option.map_none, decide_eq_true_eq, decide_eq_false_iff_not, ne_eq, Bool.not_eq_true, Bool.not_eq_false, Decidable.not_not, not_true_eq_false, not_false_eq_true, forall_const, false_implies, Bool.true_eq_false, Bool.false_eq_true, reduceCtorEq, decide_true, decide_false, Bool.not_true, Bool.not_false, if_true, if_false, Nat.zero_add, Nat.lt_irrefl, Value.oneCell', gt_iff_lt, Nat.reduceLeDiff, Nat.lt_add_one, List.length_append, vSealSl, vMakeMap, vLookup, vMapUpd, vMapEnt, vEntSt, vRange, vEntry, KK.of, KK.av, lkRes, entry_last, vvar_1, vzero_1, vvar_2, vzero_2, vknd_2, vsn_2, vvar_3, vzero_3, vknd_3, vsn_3, vvar_4, vzero_4, vknd_4, vsn_4, vsl_22, vkn_22, vvar_22, vzero_22, vsl_44, vkn_44, vvar_44, vzero_44, vvar_53, vzero_53, htk, hk3, effI, loI, hiI, pendOk, pastOk, OpOK, Nat.not_lt_zero, Nat.le_zero_eq, Nat.add_eq_zero_iff, Nat.one_ne_zero, and_false, Nat.zero_le, true_implies]; try simp (disch := omega) only [wrap64])
          | (with_reducible refine hK' _ ?_; clear hK' K')
          | (with_reducible refine hK _ ?_; clear hK K)
          | (with_reducible refine And.intro (And.intro rfl rfl) ?_)
          | (with_reducible refine And.intro (by omega) ?_)
          | (with_reducible refine And.intro (fun hg => ?_) (fun hg => ?_) <;> first | simp only [eq_false hg, decide_true, decide_false, and_true, true_and, and_false, false_and, not_true_eq_false, not_false_eq_true] | simp only [eq_true hg, decide_true, decide_false, and_true, true_and, and_false, false_and, not_true_eq_false, not_false_eq_true] | simp only [hg, decide_true, decide_false, and_true, true_and, and_false, false_and, not_true_eq_false, not_false_eq_true])
          | (with_reducible refine And.intro rfl (And.intro rfl rfl))
          | (with_reducible refine thenQ_n ?_)
          | (with_reducible refine thenQ_exit ?_)
          | (with_reducible refine thenQ_ret ?_)
          | (with_reducible refine midQ_ret ?_)
          | (with_reducible refine midQ_exit ?_)
          | (with_reducible refine blockQ_same ?_)
          | (with_reducible refine blockQ_ret ?_)
          | (with_reducible refine blockQ_n ?_)
          | (with_reducible refine AW.exit ?_)
          | (with_reducible refine AW.block ?_)
          | (with_reducible refine AW.cond_t rfl ?_)
          | (with_reducible refine AW.cond_f rfl ?_)
          | (with_reducible refine AW.cond_dec rfl (fun hc => ?_) (fun hc => ?_))
          | (with_reducible refine AW.cond rfl (fun hc => ?_) (fun hc => ?_) <;> try simp only [Bool.not_eq_eq_eq_not, Bool.not_true, Bool.not_false, decide_eq_true_eq, decide_eq_false_iff_not] at hc)
          | (with_reducible refine AW.seq ?_)
          | (with_reducible refine AW.skip ?_)
          | (with_reducible refine AW.ret ?_)
          | (with_reducible refine And.intro ?_ ?_)
          | (with_reducible intro hg; first | simp only [eq_false hg, decide_true, decide_false, and_true, true_and, and_false, false_and, not_true_eq_false, not_false_eq_true] | simp only [eq_true hg, decide_true, decide_false, and_true, true_and, and_false, false_and, not_true_eq_false, not_false_eq_true])
          | (with_reducible refine retQ_drop ?_; simp only [vRes, packRes, vLoad, vPart, lk, cond, Nat.reduceBEq, get_loc, getD_zero, getD_succ, true_and, List.length_cons, List.length_nil, Nat.reduceAdd, Nat.reduceLT, Nat.reduceLeDiff, List.take_succ_cons, List.take_zero, List.drop_succ_cons, List.drop_zero, vvar_1, vzero_1, vvar_2, vzero_2, vknd_2, vsn_2, vvar_3, vzero_3, vknd_3, vsn_3, vvar_4, vzero_4, vknd_4, vsn_4, vsl_22, vkn_22, vvar_22, vzero_22, vsl_44, vkn_44, vvar_44, vzero_44, vvar_53, vzero_53])
          )
        all_goals first
          | (exfalso; omega)
          | (refine ⟨k + 1, by omega, by omega, ?_⟩
             rw [pks_next hk1 hkn, List.length_append]
             exact (Weak.sel [5, 1, 2] hB (by decide) (by (repeat' (first | exact trivial | exact RenB.plRow rfl | exact RenB.dead _ | exact RenB.map _ _ | exact RenB.iter rfl | refine And.intro ?_ ?_ | (refine RenB.plBox ?_; (repeat' (first | exact Pl.v _ | exact Pl.junk | exact Pl.rd rfl _ | exact pl_nil | refine pl_cons ?_ ?_ | refine Pl.agg ?_ | refine Pl.tup ?_ | refine Pl.rp ?_ | refine Pl.fn ?_)); (first | done | fail)) | refine RenB.of ?_ | exact RenV.ptr rfl | exact RenV.sl rfl | exact RenV.mp rfl | exact RenV.it rfl | (refine RenV.pl ?_; (repeat' (first | exact Pl.v _ | exact Pl.junk | exact Pl.rd rfl _ | exact pl_nil | refine pl_cons ?_ ?_ | refine Pl.agg ?_ | refine Pl.tup ?_ | refine Pl.rp ?_ | refine Pl.fn ?_)); (first | done | fail)) | refine RenV.aggL ?_ | refine RenV.fnL ?_ | exact Nat.lt_of_sub_pos (by decide) | (simp; (first | done | fail)))); (first | done | fail)) (by (repeat' (first | exact trivial | exact RenV.ptr rfl | exact RenV.sl rfl | exact RenV.mp rfl | exact RenV.it rfl | exact RenV.low (.v _) | exact RenV.low (IdsLt.ptr (by assumption)) | (refine RenV.pl ?_; (repeat' (first | exact Pl.v _ | exact Pl.junk | exact Pl.rd rfl _ | exact pl_nil | refine pl_cons ?_ ?_ | refine Pl.agg ?_ | refine Pl.tup ?_ | refine Pl.rp ?_ | refine Pl.fn ?_)); (first | done | fail)) | refine RenV.fnL ?_ | refine RenV.aggL ?_ | refine And.intro ?_ ?_)); (first | done | fail))))
          | fail
      · obtain rfl : k = (cols c ((nets c).getD i 0)).length := by omega
        rw [pks_all hin]
        repeat' (first
          | (with_reducible refine AW.dreg (id := 9) envOk mixed [(false, 0, 2), (false, 0, 0), (false, 0, 0), (false, 0, 0), (false, 0, 0), (false, 0, 0), (false, 0, 0), (false, 0, 0), (false, 0, 0), (false, 0, 0), (false, 0, 0), (true, 0, 0), (true, 0, 0), (true, 0, 0), (false, 3, 3)] ?_ ?_ fun K hK => ?_; kernel_rfl; (first | rfl | exact base_len | exact base_len0))
          | (with_reducible refine AW.dregion (id := 9) envOk mixed [(false, 0, 2), (false, 0, 0), (false, 0, 0), (false, 0, 0), (false, 0, 0), (false, 0, 0), (false, 0, 0), (false, 0, 0), (false, 0, 0), (false, 0, 0), (false, 0, 0), (true, 0, 0), (true, 0, 0), (true, 0, 0), (false, 3, 3)] ?_ ?_ fun K hK => ?_; kernel_rfl; (first | rfl | exact base_len | exact base_len0))
          | (with_reducible refine vcDr_nil ?_)
          | (with_reducible refine hK' _ _ _ _ _ ?_; clear hK' K')
          | (with_reducible refine hK _ _ ?_; clear hK K; dsimp only)
          | (with_reducible refine AW.sreg envOk fun K hK => ?_)
          | (with_reducible refine AW.region envOk fun K hK => ?_)
          | (with_reducible refine AW.d0reg envOk mixed ?_ ?_ fun K hK => ?_; (first | rfl | exact base_len | exact base_len0); kernel_rfl)
          | (with_reducible refine AW.d0 envOk mixed ?_ ?_ fun K hK => ?_; (first | rfl | exact base_len | exact base_len0); kernel_rfl)
          | (with_reducible refine vcD_nil ?_)
          | (with_reducible refine vcL_nil ?_)
          | (with_reducible (first | refine vcDr_cons fun K' hK' => ?_ | refine vcD_cons fun K' hK' => ?_ | refine vcL_cons fun K' hK' => ?_); simp only [isC, Bool.false_or, Bool.or_true, vAppend, elems, ↓reduceDIte, List.take_length, Nat.le_refl, List.drop_zero, vGuard, undef, Bool.not_eq_eq_eq_not, dstOk, vcOp, vcF, isPure, putS, vcCall, St.ev, St.put, lk, AVal.ofVal, initS, Nat.reduceLT, true_and, and_true, vBin, vUn, vPick, vConv, vPart, vLoad, vStore, vIdxA, vIdx, vFldA, vExt, vLen, vMin, vNil, vAlloc, vBox, vBuild, vBuildSl, vMake, vSlice, bnd, partsA, fillA, decAll, AVal.flat, AVal.cell, cellsOk, setRange, ETy.enc, ETy.dec, ETy.sz, ETy.d, cond, Nat.reduceBEq, Nat.reduceAdd, Int.toNat_natCast, List.length_set, List.length_append, List.length_replicate, List.length_take, Nat.reduceSub, Nat.reduceEqDiff, get_loc, setBox_loc, next_eq, List.length_cons, List.length_nil, List.map_cons, List.map_nil, List.append_nil, List.nil_append, List.cons_append, List.set_cons_zero, List.set_cons_succ, getD_zero, getD_succ, List.getElem?_cons_succ, List.getElem?_cons_zero, List.take_succ_cons, List.take_zero, List.drop_succ_cons, List.drop_zero, List.all_cons, List.all_nil, Bool.and_true, Bool.true_and, Option.bind_some, Option.map_some, Option.map_none, decide_eq_true_eq, decide_eq_false_iff_not, ne_eq, Bool.not_eq_true, Bool.not_eq_false, Decidable.not_not, not_true_eq_false, not_false_eq_true, forall_const, false_implies, Bool.true_eq_false, Bool.false_eq_true, reduceCtorEq, decide_true, decide_false, Bool.not_true, Bool.not_false, if_true, if_false, Nat.zero_add, Nat.lt_irrefl, Value.oneCell', gt_iff_lt, Nat.reduceLeDiff, Nat.lt_add_one, List.length_append, vSealSl, vMakeMap, vLookup, vMapUpd, vMapEnt, vEntSt, vRange, vEntry, KK.of, KK.av, lkRes, entry_last, vvar_1, vzero_1, vvar_2, vzero_2, vknd_2, vsn_2, vvar_3, vzero_3, vknd_3, vsn_3, vvar_4, vzero_4, vknd_4, vsn_4, vsl_22, vkn_22, vvar_22, vzero_22, vsl_44, vkn_44, vvar_44, vzero_44, vvar_53, vzero_53, effI, loI, hiI, pendOk, pastOk, OpOK, Nat.not_lt_zero, Nat.le_zero_eq, Nat.add_eq_zero_iff, Nat.one_ne_zero, and_false, Nat.zero_le, true_implies]; try simp (disch := omega) only [wrap64])
          | (with_reducible refine hK' _ ?_; clear hK' K')
          | (with_reducible refine hK _ ?_; clear hK K)
          | (with_reducible refine And.intro (And.intro rfl rfl) ?_)
          | (with_reducible refine And.intro (by omega) ?_)
          | (with_reducible refine And.intro (fun hg => ?_) (fun hg => ?_) <;> first | simp only [eq_false hg, decide_true, decide_false, and_true, true_and, and_false, false_and, not_true_eq_false, not_false_eq_true] | simp only [eq_true hg, decide_true, decide_false, and_true, true_and, and_false, false_and, not_true_eq_false, not_false_eq_true] | simp only [hg, decide_true, decide_false, and_true, true_and, and_false, false_and, not_true_eq_false, not_false_eq_true])
          | (with_reducible refine And.intro rfl (And.intro rfl rfl))
          | (with_reducible refine thenQ_n ?_)
          | (with_reducible refine thenQ_exit ?_)
          | (with_reducible refine thenQ_ret ?_)
          | (with_reducible refine midQ_ret ?_)
          | (with_reducible refine midQ_exit ?_)
          | (with_reducible refine blockQ_same ?_)
          | (with_reducible refine blockQ_ret ?_)
          | (with_reducible refine blockQ_n ?_)
          | (with_reducible refine AW.exit ?_)
          | (with_reducible refine AW.block ?_)
          | (with_reducible refine AW.cond_t rfl ?_)
          | (with_reducible refine AW.cond_f rfl ?_)
          | (with_reducible refine AW.cond_dec rfl (fun hc => ?_) (fun hc => ?_))
          | (with_reducible refine AW.cond rfl (fun hc => ?_) (fun hc => ?_) <;> try simp only [Bool.not_eq_eq_eq_not, Bool.not_true, Bool.not_false, decide_eq_true_eq, decide_eq_false_iff_not] at hc)
          | (with_reducible refine AW.seq ?_)
          | (with_reducible refine AW.skip ?_)
          | (with_reducible refine AW.ret ?_)
          | (with_reducible refine And.intro ?_ ?_)
          | (with_reducible intro hg; first | simp only [eq_false hg, decide_true, decide_false, and_true, true_and, and_false, false_and, not_true_eq_false, not_false_eq_true] | simp only [eq_true hg, decide_true, decide_false, and_true, true_and, and_false, false_and, not_true_eq_false, not_false_eq_true])
          | (with_reducible refine retQ_drop ?_; simp only [vRes, packRes, vLoad, vPart, lk, cond, Nat.reduceBEq, get_loc, getD_zero, getD_succ, true_and, List.length_cons, List.length_nil, Nat.reduceAdd, Nat.reduceLT, Nat.reduceLeDiff, List.take_succ_cons, List.take_zero, List.drop_succ_cons, List.drop_zero, vvar_1, vzero_1, vvar_2, vzero_2, vknd_2, vsn_2, vvar_3, vzero_3, vknd_3, vsn_3, vvar_4, vzero_4, vknd_4, vsn_4, vsl_22, vkn_22, vvar_22, vzero_22, vsl_44, vkn_44, vvar_44, vzero_44, vvar_53, vzero_53])
          )
        all_goals first
          | (exfalso; omega)
          | exact ⟨i + 1, by omega, by omega, (Weak.sel [0, 1] hB (by decide) (by (repeat' (first | exact trivial | exact RenB.plRow rfl | exact RenB.dead _ | exact RenB.map _ _ | exact RenB.iter rfl | refine And.intro ?_ ?_ | (refine RenB.plBox ?_; (repeat' (first | exact Pl.v _ | exact Pl.junk | exact Pl.rd rfl _ | exact pl_nil | refine pl_cons ?_ ?_ | refine Pl.agg ?_ | refine Pl.tup ?_ | refine Pl.rp ?_ | refine Pl.fn ?_)); (first | done | fail)) | refine RenB.of ?_ | exact RenV.ptr rfl | exact RenV.sl rfl | exact RenV.mp rfl | exact RenV.it rfl | (refine RenV.pl ?_; (repeat' (first | exact Pl.v _ | exact Pl.junk | exact Pl.rd rfl _ | exact pl_nil | refine pl_cons ?_ ?_ | refine Pl.agg ?_ | refine Pl.tup ?_ | refine Pl.rp ?_ | refine Pl.fn ?_)); (first | done | fail)) | refine RenV.aggL ?_ | refine RenV.fnL ?_ | exact Nat.lt_of_sub_pos (by decide) | (simp; (first | done | fail)))); (first | done | fail)) (by (repeat' (first | exact trivial | exact RenV.ptr rfl | exact RenV.sl rfl | exact RenV.mp rfl | exact RenV.it rfl | exact RenV.low (.v _) | exact RenV.low (IdsLt.ptr (by assumption)) | (refine RenV.pl ?_; (repeat' (first | exact Pl.v _ | exact Pl.junk | exact Pl.rd rfl _ | exact pl_nil | refine pl_cons ?_ ?_ | refine Pl.agg ?_ | refine Pl.tup ?_ | refine Pl.rp ?_ | refine Pl.fn ?_)); (first | done | fail)) | refine RenV.fnL ?_ | refine RenV.aggL ?_ | refine And.intro ?_ ?_)); (first | done | fail)))⟩
          | fail
    · exfalso; omega
  · obtain rfl : i = (nets c).length := by omega
    repeat' (first
      | (with_reducible refine AW.dreg (id := 9) envOk mixed [(false, 0, 2), (false, 0, 0), (false, 0, 0), (false, 0, 0), (false, 0, 0), (false, 0, 0), (false, 0, 0), (false, 0, 0), (false, 0, 0), (false, 0, 0), (false, 0, 0), (true, 0, 0), (true, 0, 0), (true, 0, 0), (false, 3, 3)] ?_ ?_ fun K hK => ?_; kernel_rfl; (first | rfl | exact base_len | exact base_len0))
      | (with_reducible refine AW.dregion (id := 9) envOk mixed [(false, 0, 2), (false, 0, 0), (false, 0, 0), (false, 0, 0), (false, 0, 0), (false, 0, 0), (false, 0, 0), (false, 0, 0), (false, 0, 0), (false, 0, 0), (false, 0, 0), (true, 0, 0), (true, 0, 0), (true, 0, 0), (false, 3, 3)] ?_ ?_ fun K hK => ?_; kernel_rfl; (first | rfl | exact base_len | exact base_len0))
      | (with_reducible refine vcDr_nil ?_)
      | (with_reducible refine hK' _ _ _ _ _ ?_; clear hK' K')
      | (with_reducible refine hK _ _ ?_; clear hK K; dsimp only)
      | (with_reducible refine AW.sreg envOk fun K hK => ?_)
      | (with_reducible refine AW.region envOk fun K hK => ?_)
      | (with_reducible refine AW.d0reg envOk mixed ?_ ?_ fun K hK => ?_; (first | rfl | exact base_len | exact base_len0); kernel_rfl)
      | (with_reducible refine AW.d0 envOk mixed ?_ ?_ fun K hK => ?_; (first | rfl | exact base_len | exact base_len0); kernel_rfl)
      | (with_reducible refine vcD_nil ?_)
      | (with_reducible refine vcL_nil ?_)
      | (with_reducible (first | refine vcDr_cons fun K' hK' => ?_ | refine vcD_cons fun K' hK' => ?_ | refine vcL_cons fun K' hK' => ?_); simp only [isC, Bool.false_or, Bool.or_true, vAppend, elems, ↓reduceDIte, List.take_length, Nat.le_refl, List.drop_zero, vGuard, undef, Bool.not_eq_eq_eq_not, dstOk, vcOp, vcF, isPure, putS, vcCall, St.ev, St.put, lk, AVal.ofVal, initS, Nat.reduceLT, true_and, and_true, vBin, vUn, vPick, vConv, vPart, vLoad, vStore, vIdxA, vIdx, vFldA, vExt, vLen, vMin, vNil, vAlloc, vBox, vBuild, vBuildSl, vMake, vSlice, bnd, partsA, fillA, decAll, AVal.flat, AVal.cell, cellsOk, setRange, ETy.enc, ETy.dec, ETy.sz, ETy.d, cond, Nat.reduceBEq, Nat.reduceAdd, Int.toNat_natCast, List.length_set, List.length_append, List.length_replicate, List.length_take, Nat.reduceSub, Nat.reduceEqDiff, get_loc, setBox_loc, next_eq, List.length_cons, List.length_nil, List.map_cons, List.map_nil, List.append_nil, List.nil_append, List.cons_append, List.set_cons_zero, List.set_cons_succ, getD_zero, getD_succ, List.getElem?_cons_succ, List.getElem?_cons_zero, List.take_succ_cons, List.take_zero, List.drop_succ_cons, List.drop_zero, List.all_cons, List.all_nil, Bool.and_true, Bool.true_and, Option.bind_some, Option.map_some, Option.map_none, decide_eq_true_eq, decide_eq_false_iff_not, ne_eq, Bool.not_eq_true, Bool.not_eq_false, Decidable.not_not, not_true_eq_false, not_false_eq_true, forall_const, false_implies, Bool.true_eq_false, Bool.false_eq_true, reduceCtorEq, decide_true, decide_false, Bool.not_true, Bool.not_false, if_true, if_false, Nat.zero_add, Nat.lt_irrefl, Value.oneCell', gt_iff_lt, Nat.reduceLeDiff, Nat.lt_add_one, List.length_append, vSealSl, vMakeMap, vLookup, vMapUpd, vMapEnt, vEntSt, vRange, vEntry, KK.of, KK.av, lkRes, entry_last, vvar_1, vzero_1, vvar_2, vzero_2, vknd_2, vsn_2, vvar_3, vzero_3, vknd_3, vsn_3, vvar_4, vzero_4, vknd_4, vsn_4, vsl_22, vkn_22, vvar_22, vzero_22, vsl_44, vkn_44, vvar_44, vzero_44, vvar_53, vzero_53, effI, loI, hiI, pendOk, pastOk, OpOK, Nat.not_lt_zero, Nat.le_zero_eq, Nat.add_eq_zero_iff, Nat.one_ne_zero, and_false, Nat.zero_le, true_implies]; try simp (disch := omega) only [wrap64])
      | (with_reducible refine hK' _ ?_; clear hK' K')
      | (with_reducible refine hK _ ?_; clear hK K)
      | (with_reducible refine And.intro (And.intro rfl rfl) ?_)
      | (with_reducible refine And.intro (by omega) ?_)
      | (with_reducible refine And.intro (fun hg => ?_) (fun hg => ?_) <;> first | simp only [eq_false hg, decide_true, decide_false, and_true, true_and, and_false, false_and, not_true_eq_false, not_false_eq_true] | simp only [eq_true hg, decide_true, decide_false, and_true, true_and, and_false, false_and, not_true_eq_false, not_false_eq_true] | simp only [hg, decide_true, decide_false, and_true, true_and, and_false, false_and, not_true_eq_false, not_false_eq_true])
      | (with_reducible refine And.intro rfl (And.intro rfl rfl))
      | (with_reducible refine thenQ_n ?_)
      | (with_reducible refine thenQ_exit ?_)
      | (with_reducible refine thenQ_ret ?_)
      | (with_reducible refine midQ_ret ?_)
      | (with_reducible refine midQ_exit ?_)
      | (with_reducible refine blockQ_same ?_)
      | (with_reducible refine blockQ_ret ?_)
      | (with_reducible refine blockQ_n ?_)
      | (with_reducible refine AW.exit ?_)
      | (with_reducible refine AW.block ?_)
      | (with_reducible refine AW.cond_t rfl ?_)
      | (with_reducible refine AW.cond_f rfl ?_)
      | (with_reducible refine AW.cond_dec rfl (fun hc => ?_) (fun hc => ?_))
      | (with_reducible refine AW.cond rfl (fun hc => ?_) (fun hc => ?_) <;> try simp only [Bool.not_eq_eq_eq_not, Bool.not_true, Bool.not_false, decide_eq_true_eq, decide_eq_false_iff_not] at hc)
      | (with_reducible refine AW.seq ?_)
      | (with_reducible refine AW.skip ?_)
      | (with_reducible refine AW.ret ?_)
      | (with_reducible refine And.intro ?_ ?_)
      | (with_reducible intro hg; first | simp only [eq_false hg, decide_true, decide_false, and_true, true_and, and_false, false_and, not_true_eq_false, not_false_eq_true] | simp only [eq_true hg, decide_true, decide_false, and_true, true_and, and_false, false_and, not_true_eq_false, not_false_eq_true])
      | (with_reducible refine retQ_drop ?_; simp only [vRes, packRes, vLoad, vPart, lk, cond, Nat.reduceBEq, get_loc, getD_zero, getD_succ, true_and, List.length_cons, List.length_nil, Nat.reduceAdd, Nat.reduceLT, Nat.reduceLeDiff, List.take_succ_cons, List.take_zero, List.drop_succ_cons, List.drop_zero, vvar_1, vzero_1, vvar_2, vzero_2, vknd_2, vsn_2, vvar_3, vzero_3, vknd_3, vsn_3, vvar_4, vzero_4, vknd_4, vsn_4, vsl_22, vkn_22, vvar_22, vzero_22, vsl_44, vkn_44, vvar_44, vzero_44, vvar_53, vzero_53])
      )
    all_goals first
      | (exfalso; omega)
      | exact ⟨_, _, FinOk.keep [0] (L := [.row false (.sli .i64) (pieces c)]) hB (by decide) ⟨RenB.plRow rfl, by simp, trivial⟩ (RenV.sl (j := 0) rfl), rfl, rfl⟩
      | fail
end Go.Proofs.Ytdphlhplcmjepaa
end
section
set_option linter.unusedSimpArgs false
set_option linter.unusedVariables false
set_option maxHeartbeats 1000000
namespace Go.Proofs.Ytdphlhplcmjepaa
open Go.Eng
/-- What is known of the first t tracks. -/
structure PreT (ns : List Int) (tr : Mz) (t : Nat) : Prop where
  rows : ∀ s, s < t → tr.getD s [] ≠ [] ∧ (tr.getD s []).Pairwise (· < ·) ∧ ∀ x ∈ tr.getD s [], x ∈ ns
  once : (tr.take t).flatten.Nodup
/-- And of the first i numbers of the next. -/
structure PreI (ns : List Int) (tr : Mz) (t i : Nat) : Prop where
  pre : PreT ns tr t
  le : i ≤ (tr.getD t []).length
  asc : ((tr.getD t []).take i).Pairwise (· < ·)
  sub : ∀ x ∈ (tr.getD t []).take i, x ∈ ns
  once : ((tr.take t).flatten ++ (tr.getD t []).take i).Nodup
theorem PreT.start (ns : List Int) (tr : Mz) : PreT ns tr 0 := ⟨fun s hs => absurd hs (by omega), by simp⟩
theorem PreT.inner {ns : List Int} {tr : Mz} {t : Nat} (h : PreT ns tr t) : PreI ns tr t 0 := ⟨h, Nat.zero_le _, by simp, fun x hx => by simp at hx, by simpa using h.once⟩
theorem PreI.all {ns : List Int} {tr : Mz} {t i : Nat} (h : PreI ns tr t i) : ∀ x ∈ (tr.take t).flatten ++ (tr.getD t []).take i, x ∈ ns := fun x hx => by
  rcases List.mem_append.1 hx with hx | hx
  · obtain ⟨s, h1, h2, h3⟩ := of_take_flat hx
    exact (h.pre.rows s h1).2.2 x h3
  · exact h.sub x hx
theorem PreI.len {ns : List Int} {tr : Mz} {t i : Nat} (h : PreI ns tr t i) : (tr.take t).flatten.length + i ≤ ns.length := by
  have := nodup_le h.once h.all
  rw [List.length_append, List.length_take, Nat.min_eq_left h.le] at this
  exact this
theorem PreI.step {ns : List Int} {tr : Mz} {t i : Nat} (h : PreI ns tr t i) (hi : i < (tr.getD t []).length) (ha : 0 < i → (tr.getD t []).getD (i - 1) 0 < (tr.getD t []).getD i 0)
    (hx : (tr.getD t []).getD i 0 ∈ ns) (hne : ¬ (tr.getD t []).getD i 0 ∈ (tr.take t).flatten ++ (tr.getD t []).take i) : PreI ns tr t (i + 1) := by
  refine ⟨h.pre, hi, pw_step hi h.asc ha, fun x hm => ?_, ?_⟩
  · rw [take_snoc hi] at hm
    rcases List.mem_append.1 hm with hm | hm
    · exact h.sub x hm
    · rw [List.mem_singleton.1 hm]; exact hx
  · rw [take_snoc hi, ← List.append_assoc, List.nodup_append]
    exact ⟨h.once, by simp, fun a h1 b h2 e => hne (by rw [List.mem_singleton.1 h2] at e; rw [← e]; exact h1)⟩
theorem PreI.done {ns : List Int} {tr : Mz} {t : Nat} (ht : t < tr.length) (hne : tr.getD t [] ≠ []) (h : PreI ns tr t (tr.getD t []).length) : PreT ns tr (t + 1) := by
  have h1 := h.asc
  have h2 := h.sub
  have h3 := h.once
  rw [List.take_length] at h1 h2 h3
  refine ⟨fun s hs => ?_, by rw [flat_snoc ht]; exact h3⟩
  by_cases e : s = t
  · rw [e]; exact ⟨hne, h1, h2⟩
  · exact h.pre.rows s (by omega)
theorem PreT.all {ns : List Int} {tr : Mz} (h : PreT ns tr tr.length) : ∀ l ∈ tr, l ≠ [] ∧ l.Pairwise (· < ·) ∧ ∀ x ∈ l, x ∈ ns := fun l hl => by
  obtain ⟨s, hs, rfl⟩ := List.mem_iff_getElem.1 hl
  have := h.rows s hs
  have e : tr.getD s [] = tr[s] := by simp [List.getD, hs]
  rwa [e] at this
theorem PreT.nodup {ns : List Int} {tr : Mz} (h : PreT ns tr tr.length) : tr.flatten.Nodup := by
  have := h.once
  rwa [List.take_length] at this
/-- A pair that is right. -/
def PairOk (ns : List Int) (AP AB : Int → Int → Prop) (tr : Mz) (i k : Nat) : Prop :=
  ¬ (AP (ns.getD i 0) (ns.getD k 0) ∧ placeFrom 0 tr (ns.getD i 0) = placeFrom 0 tr (ns.getD k 0)) ∧ ¬ (AB (ns.getD i 0) (ns.getD k 0) ∧ placeFrom 0 tr (ns.getD k 0) ≤ placeFrom 0 tr (ns.getD i 0))
theorem Good.pairOk {ns : List Int} {AP AB : Int → Int → Prop} {tr : Mz} (h : Good ns AP AB tr) {i k : Nat} (hi : i < ns.length) (hk : k < ns.length) : PairOk ns AP AB tr i k := h.pairs (getD_mem' hi) (getD_mem' hk)
theorem good_iff {ns : List Int} (hn : ns.Nodup) {AP AB : Int → Int → Prop} {tr : Mz} (h : PreT ns tr tr.length) (hp : ∀ i, i < ns.length → ∀ k, k < ns.length → PairOk ns AP AB tr i k) : tr.flatten.length = ns.length ↔ Good ns AP AB tr := by
  constructor
  · intro h3
    refine good_of_pairs hn h.all h.nodup h3 (fun x hx y hy => ?_)
    have := hp (pos ns x) (pos_lt hx) (pos ns y) (pos_lt hy)
    unfold PairOk at this
    rwa [pos_get hx, pos_get hy] at this
  · intro h3; exact h3.len hn
theorem not_in {ns : List Int} {x : Int} (h : ∀ j, j < ns.length → ¬ ns.getD j 0 = x) : ¬ x ∈ ns := fun hm => by
  obtain ⟨j, h1, h2⟩ := mem_getD hm
  exact h j h1 h2
theorem trk73_ac (ns : List Int) (AP AB : Int → Int → Prop) (ma mb : List (List Bool)) (hA : RelM ns AP ma) (hR : RelM ns AB mb) (hn : ns.Nodup) (hlen : ns.length ≤ 60) (tr : Mz) (hf : Fits 1048576 tr) (H : List ABox) :
    AC Try.prog 73 [.rp [.rd (.int .i64) (ns), .rd .slb (ma), .rd .slb (mb)] 0, .rd (.sli .i64) (tr)] H (fun r H' => r = .v (.bool (decide (Good ns AP AB tr))) ∧ H' = H) := by
  obtain ⟨hf1, hf2⟩ := hf
  obtain ⟨hA1, hA2⟩ := hA
  obtain ⟨hR1, hR2⟩ := hR
  refine AC.enter envOk Try.func73 rfl (by decide) Try.ntmps73 Try.results73 (by simp) fun hB => ?_
  repeat' (first
    | (with_reducible refine AW.sreg envOk fun K hK => ?_)
    | (with_reducible refine AW.region envOk fun K hK => ?_)
    | (with_reducible refine AW.d0reg envOk mixed ?_ ?_ fun K hK => ?_; (first | rfl | exact base_len | exact base_len0); kernel_rfl)
    | (with_reducible refine AW.d0 envOk mixed ?_ ?_ fun K hK => ?_; (first | rfl | exact base_len | exact base_len0); kernel_rfl)
    | (with_reducible refine vcD_nil ?_)
    | (with_reducible refine vcL_nil ?_)
    | (with_reducible (first | refine vcD_cons fun K' hK' => ?_ | refine vcL_cons fun K' hK' => ?_); simp only [isC, Bool.false_or, Bool.or_true, vAppend, elems, ↓reduceDIte, List.take_length, Nat.le_refl, List.drop_zero, vGuard, undef, Bool.not_eq_eq_eq_not, dstOk, vcOp, vcF, isPure, putS, vcCall, St.ev, St.put, lk, AVal.ofVal, initS, Nat.reduceLT, true_and, and_true, vBin, vUn, vPick, vConv, vPart, vLoad, vStore, vIdxA, vIdx, vFldA, vExt, vLen, vMin, vNil, vAlloc, vBox, vBuild, vBuildSl, vMake, vSlice, bnd, partsA, fillA, decAll, AVal.flat, AVal.cell, cellsOk, setRange, ETy.enc, ETy.dec, ETy.sz, ETy.d, cond, Nat.reduceBEq, Nat.reduceAdd, Int.toNat_natCast, List.length_set, List.length_append, List.length_replicate, List.length_take, Nat.reduceSub, Nat.reduceEqDiff, get_loc, setBox_loc, next_eq, List.length_cons, List.length_nil, List.map_cons, List.map_nil, List.append_nil, List.nil_append, List.cons_append, List.set_cons_zero, List.set_cons_succ, getD_zero, getD_succ, List.getElem?_cons_succ, List.getElem?_cons_zero, List.take_succ_cons, List.take_zero, List.drop_succ_cons, List.drop_zero, List.all_cons, List.all_nil, Bool.and_true, Bool.true_and, Option.bind_some, Option.map_some, Option.map_none, decide_eq_true_eq, decide_eq_false_iff_not, ne_eq, Bool.not_eq_true, Bool.not_eq_false, Decidable.not_not, not_true_eq_false, not_false_eq_true, forall_const, false_implies, Bool.true_eq_false, Bool.false_eq_true, reduceCtorEq, decide_true, decide_false, Bool.not_true, Bool.not_false, if_true, if_false, Nat.zero_add, Nat.lt_irrefl, Value.oneCell', gt_iff_lt, Nat.reduceLeDiff, Nat.lt_add_one, List.length_append, vSealSl, vMakeMap, vLookup, vMapUpd, vMapEnt, vEntSt, vRange, vEntry, KK.of, KK.av, lkRes, entry_last, vvar_2, vzero_2, vknd_2, vsn_2, vvar_3, vzero_3, vknd_3, vsn_3, vvar_4, vzero_4, vknd_4, vsn_4, vsl_22, vkn_22, vvar_22, vzero_22, vsl_44, vkn_44, vvar_44, vzero_44, vvar_74, vzero_74, vsl_76, vkn_76, vvar_76, vzero_76, vsl_81, vkn_81, vvar_81, vzero_81, vvar_83, vzero_83, vbld_83, vsl_84, vkn_84, vvar_84, vzero_84, vfld_83_0, vfld_83_1, vfld_83_2]; try simp (disch := omega) only [wrap64])
    | (with_reducible refine hK' _ ?_; clear hK' K')
    | (with_reducible refine hK _ ?_; clear hK K)
    | (with_reducible refine And.intro (And.intro rfl rfl) ?_)
    | (with_reducible refine And.intro (by omega) ?_)
    | (with_reducible refine And.intro (fun hg => ?_) (fun hg => ?_) <;> first | simp only [eq_false hg, decide_true, decide_false, and_true, true_and, and_false, false_and, not_true_eq_false, not_false_eq_true] | simp only [eq_true hg, decide_true, decide_false, and_true, true_and, and_false, false_and, not_true_eq_false, not_false_eq_true] | simp only [hg, decide_true, decide_false, and_true, true_and, and_false, false_and, not_true_eq_false, not_false_eq_true])
    | (with_reducible refine And.intro rfl (And.intro rfl rfl))
    | (with_reducible refine thenQ_n ?_)
    | (with_reducible refine thenQ_exit ?_)
    | (with_reducible refine thenQ_ret ?_)
    | (with_reducible refine midQ_ret ?_)
    | (with_reducible refine midQ_exit ?_)
    | (with_reducible refine blockQ_same ?_)
    | (with_reducible refine blockQ_ret ?_)
    | (with_reducible refine blockQ_n ?_)
    | (with_reducible refine AW.exit ?_)
    | (with_reducible refine AW.block ?_)
    | (with_reducible refine AW.cond_t rfl ?_)
    | (with_reducible refine AW.cond_f rfl ?_)
    | (with_reducible refine AW.cond_dec rfl (fun hc => ?_) (fun hc => ?_))
    | (with_reducible refine AW.cond rfl (fun hc => ?_) (fun hc => ?_) <;> try simp only [Bool.not_eq_eq_eq_not, Bool.not_true, Bool.not_false, decide_eq_true_eq, decide_eq_false_iff_not] at hc)
    | (with_reducible refine AW.seq ?_)
    | (with_reducible refine AW.skip ?_)
    | (with_reducible refine AW.ret ?_)
    | (with_reducible refine And.intro ?_ ?_)
    | (with_reducible intro hg; first | simp only [eq_false hg, decide_true, decide_false, and_true, true_and, and_false, false_and, not_true_eq_false, not_false_eq_true] | simp only [eq_true hg, decide_true, decide_false, and_true, true_and, and_false, false_and, not_true_eq_false, not_false_eq_true])
    | (with_reducible refine retQ_drop ?_; simp only [vRes, packRes, vLoad, vPart, lk, cond, Nat.reduceBEq, get_loc, getD_zero, getD_succ, true_and, List.length_cons, List.length_nil, Nat.reduceAdd, Nat.reduceLT, Nat.reduceLeDiff, List.take_succ_cons, List.take_zero, List.drop_succ_cons, List.drop_zero, vvar_2, vzero_2, vknd_2, vsn_2, vvar_3, vzero_3, vknd_3, vsn_3, vvar_4, vzero_4, vknd_4, vsn_4, vsl_22, vkn_22, vvar_22, vzero_22, vsl_44, vkn_44, vvar_44, vzero_44, vvar_74, vzero_74, vsl_76, vkn_76, vvar_76, vzero_76, vsl_81, vkn_81, vvar_81, vzero_81, vvar_83, vzero_83, vbld_83, vsl_84, vkn_84, vvar_84, vzero_84, vfld_83_0, vfld_83_1, vfld_83_2])
    )
  refine AW.loop (fun t : Nat => (⟨175, [(0, .rp [.rd (.int .i64) ns, .rd .slb (ma), .rd .slb (mb)] 0), (1, .rd (.sli .i64) (tr)), (5, .sl 1 (H.length + 0) 0 (ns.length)), (6, .v (.int .i64 (((tr.take t).flatten.length : Int)))), (7, .v (.int .i64 ((t : Int))))], H, [.row false (.int .i64) (atR ns (tr.take t))]⟩ : St)) (fun t => t ≤ tr.length ∧ PreT ns tr t) (fun t => tr.length - t) 0 ⟨Nat.zero_le _, PreT.start ns tr⟩ ?_ ?_
  · simp only [List.take_zero, List.flatten_nil, List.length_nil, atR_nil]
    exact (Weak.slots (by repeat' first | exact trivial | exact ⟨rfl, trivial⟩ | refine ⟨rfl, ?_⟩))
  intro t ⟨ht, hT⟩
  have hl1 := hf2 t
  have hat := atR_len ns (tr.take t)
  repeat' (first
    | (with_reducible refine AW.sreg envOk fun K hK => ?_)
    | (with_reducible refine AW.region envOk fun K hK => ?_)
    | (with_reducible refine AW.d0reg envOk mixed ?_ ?_ fun K hK => ?_; (first | rfl | exact base_len | exact base_len0); kernel_rfl)
    | (with_reducible refine AW.d0 envOk mixed ?_ ?_ fun K hK => ?_; (first | rfl | exact base_len | exact base_len0); kernel_rfl)
    | (with_reducible refine vcD_nil ?_)
    | (with_reducible refine vcL_nil ?_)
    | (with_reducible (first | refine vcD_cons fun K' hK' => ?_ | refine vcL_cons fun K' hK' => ?_); simp only [isC, Bool.false_or, Bool.or_true, vAppend, elems, ↓reduceDIte, List.take_length, Nat.le_refl, List.drop_zero, vGuard, undef, Bool.not_eq_eq_eq_not, dstOk, vcOp, vcF, isPure, putS, vcCall, St.ev, St.put, lk, AVal.ofVal, initS, Nat.reduceLT, true_and, and_true, vBin, vUn, vPick, vConv, vPart, vLoad, vStore, vIdxA, vIdx, vFldA, vExt, vLen, vMin, vNil, vAlloc, vBox, vBuild, vBuildSl, vMake, vSlice, bnd, partsA, fillA, decAll, AVal.flat, AVal.cell, cellsOk, setRange, ETy.enc, ETy.dec, ETy.sz, ETy.d, cond, Nat.reduceBEq, Nat.reduceAdd, Int.toNat_natCast, List.length_set, List.length_append, List.length_replicate, List.length_take, Nat.reduceSub, Nat.reduceEqDiff, get_loc, setBox_loc, next_eq, List.length_cons, List.length_nil, List.map_cons, List.map_nil, List.append_nil, List.nil_append, List.cons_append, List.set_cons_zero, List.set_cons_succ, getD_zero, getD_succ, List.getElem?_cons_succ, List.getElem?_cons_zero, List.take_succ_cons, List.take_zero, List.drop_succ_cons, List.drop_zero, List.all_cons, List.all_nil, Bool.and_true, Bool.true_and, Option.bind_some, Option.map_some, Option.map_none, decide_eq_true_eq, decide_eq_false_iff_not, ne_eq, Bool.not_eq_true, Bool.not_eq_false, Decidable.not_not, not_true_eq_false, not_false_eq_true, forall_const, false_implies, Bool.true_eq_false, Bool.false_eq_true, reduceCtorEq, decide_true, decide_false, Bool.not_true, Bool.not_false, if_true, if_false, Nat.zero_add, Nat.lt_irrefl, Value.oneCell', gt_iff_lt, Nat.reduceLeDiff, Nat.lt_add_one, List.length_append, vSealSl, vMakeMap, vLookup, vMapUpd, vMapEnt, vEntSt, vRange, vEntry, KK.of, KK.av, lkRes, entry_last, vvar_2, vzero_2, vknd_2, vsn_2, vvar_3, vzero_3, vknd_3, vsn_3, vvar_4, vzero_4, vknd_4, vsn_4, vsl_22, vkn_22, vvar_22, vzero_22, vsl_44, vkn_44, vvar_44, vzero_44, vvar_74, vzero_74, vsl_76, vkn_76, vvar_76, vzero_76, vsl_81, vkn_81, vvar_81, vzero_81, vvar_83, vzero_83, vbld_83, vsl_84, vkn_84, vvar_84, vzero_84, vfld_83_0, vfld_83_1, vfld_83_2, hat]; try simp (disch := omega) only [wrap64])
    | (with_reducible refine hK' _ ?_; clear hK' K')
    | (with_reducible refine hK _ ?_; clear hK K)
    | (with_reducible refine And.intro (And.intro rfl rfl) ?_)
    | (with_reducible refine And.intro (by omega) ?_)
    | (with_reducible refine And.intro (fun hg => ?_) (fun hg => ?_) <;> first | simp only [eq_false hg, decide_true, decide_false, and_true, true_and, and_false, false_and, not_true_eq_false, not_false_eq_true] | simp only [eq_true hg, decide_true, decide_false, and_true, true_and, and_false, false_and, not_true_eq_false, not_false_eq_true] | simp only [hg, decide_true, decide_false, and_true, true_and, and_false, false_and, not_true_eq_false, not_false_eq_true])
    | (with_reducible refine And.intro rfl (And.intro rfl rfl))
    | (with_reducible refine thenQ_n ?_)
    | (with_reducible refine thenQ_exit ?_)
    | (with_reducible refine thenQ_ret ?_)
    | (with_reducible refine midQ_ret ?_)
    | (with_reducible refine midQ_exit ?_)
    | (with_reducible refine blockQ_same ?_)
    | (with_reducible refine blockQ_ret ?_)
    | (with_reducible refine blockQ_n ?_)
    | (with_reducible refine AW.exit ?_)
    | (with_reducible refine AW.block ?_)
    | (with_reducible refine AW.cond_t rfl ?_)
    | (with_reducible refine AW.cond_f rfl ?_)
    | (with_reducible refine AW.cond_dec rfl (fun hc => ?_) (fun hc => ?_))
    | (with_reducible refine AW.cond rfl (fun hc => ?_) (fun hc => ?_) <;> try simp only [Bool.not_eq_eq_eq_not, Bool.not_true, Bool.not_false, decide_eq_true_eq, decide_eq_false_iff_not] at hc)
    | (with_reducible refine AW.seq ?_)
    | (with_reducible refine AW.skip ?_)
    | (with_reducible refine AW.ret ?_)
    | (with_reducible refine And.intro ?_ ?_)
    | (with_reducible intro hg; first | simp only [eq_false hg, decide_true, decide_false, and_true, true_and, and_false, false_and, not_true_eq_false, not_false_eq_true] | simp only [eq_true hg, decide_true, decide_false, and_true, true_and, and_false, false_and, not_true_eq_false, not_false_eq_true])
    | (with_reducible refine retQ_drop ?_; simp only [vRes, packRes, vLoad, vPart, lk, cond, Nat.reduceBEq, get_loc, getD_zero, getD_succ, true_and, List.length_cons, List.length_nil, Nat.reduceAdd, Nat.reduceLT, Nat.reduceLeDiff, List.take_succ_cons, List.take_zero, List.drop_succ_cons, List.drop_zero, vvar_2, vzero_2, vknd_2, vsn_2, vvar_3, vzero_3, vknd_3, vsn_3, vvar_4, vzero_4, vknd_4, vsn_4, vsl_22, vkn_22, vvar_22, vzero_22, vsl_44, vkn_44, vvar_44, vzero_44, vvar_74, vzero_74, vsl_76, vkn_76, vvar_76, vzero_76, vsl_81, vkn_81, vvar_81, vzero_81, vvar_83, vzero_83, vbld_83, vsl_84, vkn_84, vvar_84, vzero_84, vfld_83_0, vfld_83_1, vfld_83_2])
    )
  · refine ⟨_, _, FinOk.drop hB (Pl.ids (by (repeat' (first | exact Pl.v _ | exact Pl.junk | exact Pl.rd rfl _ | exact pl_nil | refine pl_cons ?_ ?_ | refine Pl.agg ?_ | refine Pl.tup ?_ | refine Pl.rp ?_ | refine Pl.fn ?_)); (first | done | fail))), ?_, rfl⟩
    refine v_bool ?_
    simp only [Bool.false_eq_true, false_iff]
    intro hg
    exact (hg.at (t := t) (by omega)).1 (List.length_eq_zero_iff.1 (by omega))
  · have hne : tr.getD t [] ≠ [] := fun e => by rw [e] at hc; simp at hc
    refine AW.loop (fun i : Nat => (⟨175, [(0, .rp [.rd (.int .i64) ns, .rd .slb (ma), .rd .slb (mb)] 0), (1, .rd (.sli .i64) (tr)), (5, .sl 1 (H.length + 0) 0 (ns.length)), (6, .v (.int .i64 ((((tr.take t).flatten.length + i : Nat) : Int)))), (7, .v (.int .i64 ((t : Int)))), (8, .v (.int .i64 ((i : Int))))], H, [.row false (.int .i64) (atR ns (tr.take t ++ [(tr.getD t []).take i]))]⟩ : St)) (fun i => PreI ns tr t i) (fun i => (tr.getD t []).length - i) 0 hT.inner ?_ ?_
    · simp only [List.take_zero, atR_new]
      exact (Weak.slots (by repeat' first | exact trivial | exact ⟨rfl, trivial⟩ | refine ⟨rfl, ?_⟩))
    intro i hI
    have hl := hI.len
    have hil := hI.le
    have hat2 := atR_len ns (tr.take t ++ [(tr.getD t []).take i])
    have hi3 : ((i : Int) - 1).toNat = i - 1 := by omega
    repeat' (first
      | (with_reducible refine AW.sreg envOk fun K hK => ?_)
      | (with_reducible refine AW.region envOk fun K hK => ?_)
      | (with_reducible refine AW.d0reg envOk mixed ?_ ?_ fun K hK => ?_; (first | rfl | exact base_len | exact base_len0); kernel_rfl)
      | (with_reducible refine AW.d0 envOk mixed ?_ ?_ fun K hK => ?_; (first | rfl | exact base_len | exact base_len0); kernel_rfl)
      | (with_reducible refine vcD_nil ?_)
      | (with_reducible refine vcL_nil ?_)
      | (with_reducible (first | refine vcD_cons fun K' hK' => ?_ | refine vcL_cons fun K' hK' => ?_); simp only [isC, Bool.false_or, Bool.or_true, vAppend, elems, ↓reduceDIte, List.take_length, Nat.le_refl, List.drop_zero, vGuard, undef, Bool.not_eq_eq_eq_not, dstOk, vcOp, vcF, isPure, putS, vcCall, St.ev, St.put, lk, AVal.ofVal, initS, Nat.reduceLT, true_and, and_true, vBin, vUn, vPick, vConv, vPart, vLoad, vStore, vIdxA, vIdx, vFldA, vExt, vLen, vMin, vNil, vAlloc, vBox, vBuild, vBuildSl, vMake, vSlice, bnd, partsA, fillA, decAll, AVal.flat, AVal.cell, cellsOk, setRange, ETy.enc, ETy.dec, ETy.sz, ETy.d, cond, Nat.reduceBEq, Nat.reduceAdd, Int.toNat_natCast, List.length_set, List.length_append, List.length_replicate, List.length_take, Nat.reduceSub, Nat.reduceEqDiff, get_loc, setBox_loc, next_eq, List.length_cons, List.length_nil, List.map_cons, List.map_nil, List.append_nil, List.nil_append, List.cons_append, List.set_cons_zero, List.set_cons_succ, getD_zero, getD_succ, List.getElem?_cons_succ, List.getElem?_cons_zero, List.take_succ_cons, List.take_zero, List.drop_succ_cons, List.drop_zero, List.all_cons, List.all_nil, Bool.and_true, Bool.true_and, Option.bind_some, Option.map_some, Option.map_none, decide_eq_true_eq, decide_eq_false_iff_not, ne_eq, Bool.not_eq_true, Bool.not_eq_false, Decidable.not_not, not_true_eq_false, not_false_eq_true, forall_const, false_implies, Bool.true_eq_false, Bool.false_eq_true, reduceCtorEq, decide_true, decide_false, Bool.not_true, Bool.not_false, if_true, if_false, Nat.zero_add, Nat.lt_irrefl, Value.oneCell', gt_iff_lt, Nat.reduceLeDiff, Nat.lt_add_one, List.length_append, vSealSl, vMakeMap, vLookup, vMapUpd, vMapEnt, vEntSt, vRange, vEntry, KK.of, KK.av, lkRes, entry_last, vvar_2, vzero_2, vknd_2, vsn_2, vvar_3, vzero_3, vknd_3, vsn_3, vvar_4, vzero_4, vknd_4, vsn_4, vsl_22, vkn_22, vvar_22, vzero_22, vsl_44, vkn_44, vvar_44, vzero_44, vvar_74, vzero_74, vsl_76, vkn_76, vvar_76, vzero_76, vsl_81, vkn_81, vvar_81, vzero_81, vvar_83, vzero_83, vbld_83, vsl_84, vkn_84, vvar_84, vzero_84, vfld_83_0, vfld_83_1, vfld_83_2, hat2, hi3]; try simp (disch := omega) only [wrap64])
      | (with_reducible refine hK' _ ?_; clear hK' K')
      | (with_reducible refine hK _ ?_; clear hK K)
      | (with_reducible refine And.intro (And.intro rfl rfl) ?_)
      | (with_reducible refine And.intro (by omega) ?_)
      | (with_reducible refine And.intro (fun hg => ?_) (fun hg => ?_) <;> first | simp only [eq_false hg, decide_true, decide_false, and_true, true_and, and_false, false_and, not_true_eq_false, not_false_eq_true] | simp only [eq_true hg, decide_true, decide_false, and_true, true_and, and_false, false_and, not_true_eq_false, not_false_eq_true] | simp only [hg, decide_true, decide_false, and_true, true_and, and_false, false_and, not_true_eq_false, not_false_eq_true])
      | (with_reducible refine And.intro rfl (And.intro rfl rfl))
      | (with_reducible refine thenQ_n ?_)
      | (with_reducible refine thenQ_exit ?_)
      | (with_reducible refine thenQ_ret ?_)
      | (with_reducible refine midQ_ret ?_)
      | (with_reducible refine midQ_exit ?_)
      | (with_reducible refine blockQ_same ?_)
      | (with_reducible refine blockQ_ret ?_)
      | (with_reducible refine blockQ_n ?_)
      | (with_reducible refine AW.exit ?_)
      | (with_reducible refine AW.block ?_)
      | (with_reducible refine AW.cond_t rfl ?_)
      | (with_reducible refine AW.cond_f rfl ?_)
      | (with_reducible refine AW.cond_dec rfl (fun hc => ?_) (fun hc => ?_))
      | (with_reducible refine AW.cond rfl (fun hc => ?_) (fun hc => ?_) <;> try simp only [Bool.not_eq_eq_eq_not, Bool.not_true, Bool.not_false, decide_eq_true_eq, decide_eq_false_iff_not] at hc)
      | (with_reducible refine AW.seq ?_)
      | (with_reducible refine AW.skip ?_)
      | (with_reducible refine AW.ret ?_)
      | (with_reducible refine And.intro ?_ ?_)
      | (with_reducible intro hg; first | simp only [eq_false hg, decide_true, decide_false, and_true, true_and, and_false, false_and, not_true_eq_false, not_false_eq_true] | simp only [eq_true hg, decide_true, decide_false, and_true, true_and, and_false, false_and, not_true_eq_false, not_false_eq_true])
      | (with_reducible refine retQ_drop ?_; simp only [vRes, packRes, vLoad, vPart, lk, cond, Nat.reduceBEq, get_loc, getD_zero, getD_succ, true_and, List.length_cons, List.length_nil, Nat.reduceAdd, Nat.reduceLT, Nat.reduceLeDiff, List.take_succ_cons, List.take_zero, List.drop_succ_cons, List.drop_zero, vvar_2, vzero_2, vknd_2, vsn_2, vvar_3, vzero_3, vknd_3, vsn_3, vvar_4, vzero_4, vknd_4, vsn_4, vsl_22, vkn_22, vvar_22, vzero_22, vsl_44, vkn_44, vvar_44, vzero_44, vvar_74, vzero_74, vsl_76, vkn_76, vvar_76, vzero_76, vsl_81, vkn_81, vvar_81, vzero_81, vvar_83, vzero_83, vbld_83, vsl_84, vkn_84, vvar_84, vzero_84, vfld_83_0, vfld_83_1, vfld_83_2])
      )
    · refine ⟨_, _, FinOk.drop hB (Pl.ids (by (repeat' (first | exact Pl.v _ | exact Pl.junk | exact Pl.rd rfl _ | exact pl_nil | refine pl_cons ?_ ?_ | refine Pl.agg ?_ | refine Pl.tup ?_ | refine Pl.rp ?_ | refine Pl.fn ?_)); (first | done | fail))), ?_, rfl⟩
      refine v_bool ?_
      simp only [Bool.false_eq_true, false_iff]
      intro hg
      have := pw_at (hg.at (t := t) (by omega)).2.1 (i := i) (j := i - 1) (by omega) (by omega)
      omega
    iterate 2
      focus
        have ha : 0 < i → (tr.getD t []).getD (i - 1) 0 < (tr.getD t []).getD i 0 := fun _ => by omega
        refine AW.loop (fun k : Nat => (⟨175, [(0, .rp [.rd (.int .i64) ns, .rd .slb (ma), .rd .slb (mb)] 0), (1, .rd (.sli .i64) (tr)), (5, .sl 1 (H.length + 0) 0 (ns.length)), (6, .v (.int .i64 ((((tr.take t).flatten.length + i : Nat) : Int)))), (7, .v (.int .i64 ((t : Int)))), (8, .v (.int .i64 ((i : Int)))), (9, .v (.int .i64 ((k : Int))))], H, [.row false (.int .i64) (atR ns (tr.take t ++ [(tr.getD t []).take i]))]⟩ : St)) (fun k => k ≤ ns.length ∧ ∀ j, j < k → ¬ ns.getD j 0 = (tr.getD t []).getD i 0) (fun k => ns.length - k) 0 ⟨Nat.zero_le _, fun j hj => absurd hj (by omega)⟩ (Weak.slots (by repeat' first | exact trivial | exact ⟨rfl, trivial⟩ | refine ⟨rfl, ?_⟩)) ?_
        intro k ⟨hk, hK⟩
        repeat' (first
          | (with_reducible refine AW.sreg envOk fun K hK => ?_)
          | (with_reducible refine AW.region envOk fun K hK => ?_)
          | (with_reducible refine AW.d0reg envOk mixed ?_ ?_ fun K hK => ?_; (first | rfl | exact base_len | exact base_len0); kernel_rfl)
          | (with_reducible refine AW.d0 envOk mixed ?_ ?_ fun K hK => ?_; (first | rfl | exact base_len | exact base_len0); kernel_rfl)
          | (with_reducible refine vcD_nil ?_)
          | (with_reducible refine vcL_nil ?_)
          | (with_reducible (first | refine vcD_cons fun K' hK' => ?_ | refine vcL_cons fun K' hK' => ?_); simp only [isC, Bool.false_or, Bool.or_true, vAppend, elems, ↓reduceDIte, List.take_length, Nat.le_refl, List.drop_zero, vGuard, undef, Bool.not_eq_eq_eq_not, dstOk, vcOp, vcF, isPure, putS, vcCall, St.ev, St.put, lk, AVal.ofVal, initS, Nat.reduceLT, true_and, and_true, vBin, vUn, vPick, vConv, vPart, vLoad, vStore, vIdxA, vIdx, vFldA, vExt, vLen, vMin, vNil, vAlloc, vBox, vBuild, vBuildSl, vMake, vSlice, bnd, partsA, fillA, decAll, AVal.flat, AVal.cell, cellsOk, setRange, ETy.enc, ETy.dec, ETy.sz, ETy.d, cond, Nat.reduceBEq, Nat.reduceAdd, Int.toNat_natCast, List.length_set, List.length_append, List.length_replicate, List.length_take, Nat.reduceSub, Nat.reduceEqDiff, get_loc, setBox_loc, next_eq, List.length_cons, List.length_nil, List.map_cons, List.map_nil, List.append_nil, List.nil_append, List.cons_append, List.set_cons_zero, List.set_cons_succ, getD_zero, getD_succ, List.getElem?_cons_succ, List.getElem?_cons_zero, List.take_succ_cons, List.take_zero, List.drop_succ_cons, List.drop_zero, List.all_cons, List.all_nil, Bool.and_true, Bool.true_and, Option.bind_some, Option.map_some, Option.map_none, decide_eq_true_eq, decide_eq_false_iff_not, ne_eq, Bool.not_eq_true, Bool.not_eq_false, Decidable.not_not, not_true_eq_false, not_false_eq_true, forall_const, false_implies, Bool.true_eq_false, Bool.false_eq_true, reduceCtorEq, decide_true, decide_false, Bool.not_true, Bool.not_false, if_true, if_false, Nat.zero_add, Nat.lt_irrefl, Value.oneCell', gt_iff_lt, Nat.reduceLeDiff, Nat.lt_add_one, List.length_append, vSealSl, vMakeMap, vLookup, vMapUpd, vMapEnt, vEntSt, vRange, vEntry, KK.of, KK.av, lkRes, entry_last, vvar_2, vzero_2, vknd_2, vsn_2, vvar_3, vzero_3, vknd_3, vsn_3, vvar_4, vzero_4, vknd_4, vsn_4, vsl_22, vkn_22, vvar_22, vzero_22, vsl_44, vkn_44, vvar_44, vzero_44, vvar_74, vzero_74, vsl_76, vkn_76, vvar_76, vzero_76, vsl_81, vkn_81, vvar_81, vzero_81, vvar_83, vzero_83, vbld_83, vsl_84, vkn_84, vvar_84, vzero_84, vfld_83_0, vfld_83_1, vfld_83_2, hat2]; try simp (disch := omega) only [wrap64])
          | (with_reducible refine hK' _ ?_; clear hK' K')
          | (with_reducible refine hK _ ?_; clear hK K)
          | (with_reducible refine And.intro (And.intro rfl rfl) ?_)
          | (with_reducible refine And.intro (by omega) ?_)
          | (with_reducible refine And.intro (fun hg => ?_) (fun hg => ?_) <;> first | simp only [eq_false hg, decide_true, decide_false, and_true, true_and, and_false, false_and, not_true_eq_false, not_false_eq_true] | simp only [eq_true hg, decide_true, decide_false, and_true, true_and, and_false, false_and, not_true_eq_false, not_false_eq_true] | simp only [hg, decide_true, decide_false, and_true, true_and, and_false, false_and, not_true_eq_false, not_false_eq_true])
          | (with_reducible refine And.intro rfl (And.intro rfl rfl))
          | (with_reducible refine thenQ_n ?_)
          | (with_reducible refine thenQ_exit ?_)
          | (with_reducible refine thenQ_ret ?_)
          | (with_reducible refine midQ_ret ?_)
          | (with_reducible refine midQ_exit ?_)
          | (with_reducible refine blockQ_same ?_)
          | (with_reducible refine blockQ_ret ?_)
          | (with_reducible refine blockQ_n ?_)
          | (with_reducible refine AW.exit ?_)
          | (with_reducible refine AW.block ?_)
          | (with_reducible refine AW.cond_t rfl ?_)
          | (with_reducible refine AW.cond_f rfl ?_)
          | (with_reducible refine AW.cond_dec rfl (fun hc => ?_) (fun hc => ?_))
          | (with_reducible refine AW.cond rfl (fun hc => ?_) (fun hc => ?_) <;> try simp only [Bool.not_eq_eq_eq_not, Bool.not_true, Bool.not_false, decide_eq_true_eq, decide_eq_false_iff_not] at hc)
          | (with_reducible refine AW.seq ?_)
          | (with_reducible refine AW.skip ?_)
          | (with_reducible refine AW.ret ?_)
          | (with_reducible refine And.intro ?_ ?_)
          | (with_reducible intro hg; first | simp only [eq_false hg, decide_true, decide_false, and_true, true_and, and_false, false_and, not_true_eq_false, not_false_eq_true] | simp only [eq_true hg, decide_true, decide_false, and_true, true_and, and_false, false_and, not_true_eq_false, not_false_eq_true])
          | (with_reducible refine retQ_drop ?_; simp only [vRes, packRes, vLoad, vPart, lk, cond, Nat.reduceBEq, get_loc, getD_zero, getD_succ, true_and, List.length_cons, List.length_nil, Nat.reduceAdd, Nat.reduceLT, Nat.reduceLeDiff, List.take_succ_cons, List.take_zero, List.drop_succ_cons, List.drop_zero, vvar_2, vzero_2, vknd_2, vsn_2, vvar_3, vzero_3, vknd_3, vsn_3, vvar_4, vzero_4, vknd_4, vsn_4, vsl_22, vkn_22, vvar_22, vzero_22, vsl_44, vkn_44, vvar_44, vzero_44, vvar_74, vzero_74, vsl_76, vkn_76, vvar_76, vzero_76, vsl_81, vkn_81, vvar_81, vzero_81, vvar_83, vzero_83, vbld_83, vsl_84, vkn_84, vvar_84, vzero_84, vfld_83_0, vfld_83_1, vfld_83_2])
          )
        · refine ⟨k + 1, ⟨by omega, fun j hj => ?_⟩, by omega, (Weak.slots (by repeat' first | exact trivial | exact ⟨rfl, trivial⟩ | refine ⟨rfl, ?_⟩))⟩
          by_cases e : j = k
          · subst e; assumption
          · exact hK j (by omega)
        · have hkn : k < ns.length := by omega
          have hx : ns.getD k 0 = (tr.getD t []).getD i 0 := Decidable.not_not.1 (by assumption)
          rw [atR_get hkn] at hc
          refine ⟨_, _, FinOk.drop hB (Pl.ids (by (repeat' (first | exact Pl.v _ | exact Pl.junk | exact Pl.rd rfl _ | exact pl_nil | refine pl_cons ?_ ?_ | refine Pl.agg ?_ | refine Pl.tup ?_ | refine Pl.rp ?_ | refine Pl.fn ?_)); (first | done | fail))), ?_, rfl⟩
          refine v_bool ?_
          simp only [Bool.false_eq_true, false_iff]
          intro hg
          have h1 := once_at hg.once (t := t) (i := i) (by omega) (by omega)
          rw [← hx] at h1
          have h2 : ¬ ns.getD k 0 ∈ (tr.take t ++ [(tr.getD t []).take i]).flatten := by rw [List.flatten_append]; simpa using h1
          rw [(place_zero _ _ 0).2 h2] at hc
          omega
        · have hkn : k < ns.length := by omega
          have hx : ns.getD k 0 = (tr.getD t []).getD i 0 := Decidable.not_not.1 (by assumption)
          rw [atR_get hkn] at hc
          have hz : placeFrom 0 (tr.take t ++ [(tr.getD t []).take i]) (ns.getD k 0) = 0 := by
            have := (place_nonneg (ns.getD k 0) (tr.take t ++ [(tr.getD t []).take i]) 0).1
            omega
          have h2 := (place_zero _ _ 0).1 hz
          have h1 : ¬ ns.getD k 0 ∈ (tr.take t).flatten ++ (tr.getD t []).take i := by rw [List.flatten_append] at h2; simpa using h2
          have e := atR_set hn hkn hx (by rw [← hx]; exact h1)
          have eL : ((tr.take t).length : Int) = (t : Int) := by rw [List.length_take, Nat.min_eq_left (by omega)]
          rw [eL, ← take_snoc (show i < (tr.getD t []).length by omega)] at e
          refine ⟨i + 1, hI.step (by omega) ha (hx ▸ getD_mem' hkn) (by rw [← hx]; exact h1), by omega, ?_⟩
          rw [e]
          exact (Weak.slots (by repeat' first | exact trivial | exact ⟨rfl, trivial⟩ | refine ⟨rfl, ?_⟩))
        · exact absurd hg (by omega)
        · refine ⟨_, _, FinOk.drop hB (Pl.ids (by (repeat' (first | exact Pl.v _ | exact Pl.junk | exact Pl.rd rfl _ | exact pl_nil | refine pl_cons ?_ ?_ | refine Pl.agg ?_ | refine Pl.tup ?_ | refine Pl.rp ?_ | refine Pl.fn ?_)); (first | done | fail))), ?_, rfl⟩
          refine v_bool ?_
          simp only [Bool.false_eq_true, false_iff]
          intro hg'
          exact not_in (fun j hj => hK j (by omega)) ((hg'.at (t := t) (by omega)).2.2 _ (getD_mem' (by omega)))
    · obtain rfl : i = (tr.getD t []).length := by omega
      refine ⟨t + 1, ⟨by omega, hI.done (by omega) hne⟩, by omega, ?_⟩
      have e1 : (tr.take (t + 1)).flatten.length = (tr.take t).flatten.length + (tr.getD t []).length := by rw [flat_snoc (by omega), List.length_append]
      rw [e1, takeL_snoc (by omega), List.take_length]
      exact (Weak.slots (by repeat' first | exact trivial | exact ⟨rfl, trivial⟩ | refine ⟨rfl, ?_⟩))
  · obtain rfl : t = tr.length := by omega
    rw [List.take_length]
    refine AW.loop (fun i : Nat => (⟨175, [(0, .rp [.rd (.int .i64) ns, .rd .slb (ma), .rd .slb (mb)] 0), (1, .rd (.sli .i64) (tr)), (5, .sl 1 (H.length + 0) 0 (ns.length)), (6, .v (.int .i64 ((tr.flatten.length : Int)))), (10, .v (.int .i64 ((i : Int))))], H, [.row false (.int .i64) (atR ns tr)]⟩ : St)) (fun i => i ≤ ns.length ∧ ∀ j, j < i → ∀ k, k < ns.length → PairOk ns AP AB tr j k) (fun i => ns.length - i) 0 ⟨Nat.zero_le _, fun j hj => absurd hj (by omega)⟩ (Weak.slots (by repeat' first | exact trivial | exact ⟨rfl, trivial⟩ | refine ⟨rfl, ?_⟩)) ?_
    intro i ⟨hi, hI⟩
    rw [List.take_length] at hat
    repeat' (first
      | (with_reducible refine AW.sreg envOk fun K hK => ?_)
      | (with_reducible refine AW.region envOk fun K hK => ?_)
      | (with_reducible refine AW.d0reg envOk mixed ?_ ?_ fun K hK => ?_; (first | rfl | exact base_len | exact base_len0); kernel_rfl)
      | (with_reducible refine AW.d0 envOk mixed ?_ ?_ fun K hK => ?_; (first | rfl | exact base_len | exact base_len0); kernel_rfl)
      | (with_reducible refine vcD_nil ?_)
      | (with_reducible refine vcL_nil ?_)
      | (with_reducible (first | refine vcD_cons fun K' hK' => ?_ | refine vcL_cons fun K' hK' => ?_); simp only [isC, Bool.false_or, Bool.or_true, vAppend, elems, ↓reduceDIte, List.take_length, Nat.le_refl, List.drop_zero, vGuard, undef, Bool.not_eq_eq_eq_not, dstOk, vcOp, vcF, isPure, putS, vcCall, St.ev, St.put, lk, AVal.ofVal, initS, Nat.reduceLT, true_and, and_true, vBin, vUn, vPick, vConv, vPart, vLoad, vStore, vIdxA, vIdx, vFldA, vExt, vLen, vMin, vNil, vAlloc, vBox, vBuild, vBuildSl, vMake, vSlice, bnd, partsA, fillA, decAll, AVal.flat, AVal.cell, cellsOk, setRange, ETy.enc, ETy.dec, ETy.sz, ETy.d, cond, Nat.reduceBEq, Nat.reduceAdd, Int.toNat_natCast, List.length_set, List.length_append, List.length_replicate, List.length_take, Nat.reduceSub, Nat.reduceEqDiff, get_loc, setBox_loc, next_eq, List.length_cons, List.length_nil, List.map_cons, List.map_nil, List.append_nil, List.nil_append, List.cons_append, List.set_cons_zero, List.set_cons_succ, getD_zero, getD_succ, List.getElem?_cons_succ, List.getElem?_cons_zero, List.take_succ_cons, List.take_zero, List.drop_succ_cons, List.drop_zero, List.all_cons, List.all_nil, Bool.and_true, Bool.true_and, Option.bind_some, Option.map_some, Option.map_none, decide_eq_true_eq, decide_eq_false_iff_not, ne_eq, Bool.not_eq_true, Bool.not_eq_false, Decidable.not_not, not_true_eq_false, not_false_eq_true, forall_const, false_implies, Bool.true_eq_false, Bool.false_eq_true, reduceCtorEq, decide_true, decide_false, Bool.not_true, Bool.not_false, if_true, if_false, Nat.zero_add, Nat.lt_irrefl, Value.oneCell', gt_iff_lt, Nat.reduceLeDiff, Nat.lt_add_one, List.length_append, vSealSl, vMakeMap, vLookup, vMapUpd, vMapEnt, vEntSt, vRange, vEntry, KK.of, KK.av, lkRes, entry_last, vvar_2, vzero_2, vknd_2, vsn_2, vvar_3, vzero_3, vknd_3, vsn_3, vvar_4, vzero_4, vknd_4, vsn_4, vsl_22, vkn_22, vvar_22, vzero_22, vsl_44, vkn_44, vvar_44, vzero_44, vvar_74, vzero_74, vsl_76, vkn_76, vvar_76, vzero_76, vsl_81, vkn_81, vvar_81, vzero_81, vvar_83, vzero_83, vbld_83, vsl_84, vkn_84, vvar_84, vzero_84, vfld_83_0, vfld_83_1, vfld_83_2, hat]; try simp (disch := omega) only [wrap64])
      | (with_reducible refine hK' _ ?_; clear hK' K')
      | (with_reducible refine hK _ ?_; clear hK K)
      | (with_reducible refine And.intro (And.intro rfl rfl) ?_)
      | (with_reducible refine And.intro (by omega) ?_)
      | (with_reducible refine And.intro (fun hg => ?_) (fun hg => ?_) <;> first | simp only [eq_false hg, decide_true, decide_false, and_true, true_and, and_false, false_and, not_true_eq_false, not_false_eq_true] | simp only [eq_true hg, decide_true, decide_false, and_true, true_and, and_false, false_and, not_true_eq_false, not_false_eq_true] | simp only [hg, decide_true, decide_false, and_true, true_and, and_false, false_and, not_true_eq_false, not_false_eq_true])
      | (with_reducible refine And.intro rfl (And.intro rfl rfl))
      | (with_reducible refine thenQ_n ?_)
      | (with_reducible refine thenQ_exit ?_)
      | (with_reducible refine thenQ_ret ?_)
      | (with_reducible refine midQ_ret ?_)
      | (with_reducible refine midQ_exit ?_)
      | (with_reducible refine blockQ_same ?_)
      | (with_reducible refine blockQ_ret ?_)
      | (with_reducible refine blockQ_n ?_)
      | (with_reducible refine AW.exit ?_)
      | (with_reducible refine AW.block ?_)
      | (with_reducible refine AW.cond_t rfl ?_)
      | (with_reducible refine AW.cond_f rfl ?_)
      | (with_reducible refine AW.cond_dec rfl (fun hc => ?_) (fun hc => ?_))
      | (with_reducible refine AW.cond rfl (fun hc => ?_) (fun hc => ?_) <;> try simp only [Bool.not_eq_eq_eq_not, Bool.not_true, Bool.not_false, decide_eq_true_eq, decide_eq_false_iff_not] at hc)
      | (with_reducible refine AW.seq ?_)
      | (with_reducible refine AW.skip ?_)
      | (with_reducible refine AW.ret ?_)
      | (with_reducible refine And.intro ?_ ?_)
      | (with_reducible intro hg; first | simp only [eq_false hg, decide_true, decide_false, and_true, true_and, and_false, false_and, not_true_eq_false, not_false_eq_true] | simp only [eq_true hg, decide_true, decide_false, and_true, true_and, and_false, false_and, not_true_eq_false, not_false_eq_true])
      | (with_reducible refine retQ_drop ?_; simp only [vRes, packRes, vLoad, vPart, lk, cond, Nat.reduceBEq, get_loc, getD_zero, getD_succ, true_and, List.length_cons, List.length_nil, Nat.reduceAdd, Nat.reduceLT, Nat.reduceLeDiff, List.take_succ_cons, List.take_zero, List.drop_succ_cons, List.drop_zero, vvar_2, vzero_2, vknd_2, vsn_2, vvar_3, vzero_3, vknd_3, vsn_3, vvar_4, vzero_4, vknd_4, vsn_4, vsl_22, vkn_22, vvar_22, vzero_22, vsl_44, vkn_44, vvar_44, vzero_44, vvar_74, vzero_74, vsl_76, vkn_76, vvar_76, vzero_76, vsl_81, vkn_81, vvar_81, vzero_81, vvar_83, vzero_83, vbld_83, vsl_84, vkn_84, vvar_84, vzero_84, vfld_83_0, vfld_83_1, vfld_83_2])
      )
    · refine AW.loop (fun k : Nat => (⟨175, [(0, .rp [.rd (.int .i64) ns, .rd .slb (ma), .rd .slb (mb)] 0), (1, .rd (.sli .i64) (tr)), (5, .sl 1 (H.length + 0) 0 (ns.length)), (6, .v (.int .i64 ((tr.flatten.length : Int)))), (10, .v (.int .i64 ((i : Int)))), (11, .v (.int .i64 ((k : Int))))], H, [.row false (.int .i64) (atR ns tr)]⟩ : St)) (fun k => k ≤ ns.length ∧ ∀ j, j < k → PairOk ns AP AB tr i j) (fun k => ns.length - k) 0 ⟨Nat.zero_le _, fun j hj => absurd hj (by omega)⟩ (Weak.slots (by repeat' first | exact trivial | exact ⟨rfl, trivial⟩ | refine ⟨rfl, ?_⟩)) ?_
      intro k ⟨hk, hK⟩
      have lA := (hA2 i (by omega)).1
      have lB := (hR2 i (by omega)).1
      repeat' (first
        | (with_reducible refine AW.sreg envOk fun K hK => ?_)
        | (with_reducible refine AW.region envOk fun K hK => ?_)
        | (with_reducible refine AW.d0reg envOk mixed ?_ ?_ fun K hK => ?_; (first | rfl | exact base_len | exact base_len0); kernel_rfl)
        | (with_reducible refine AW.d0 envOk mixed ?_ ?_ fun K hK => ?_; (first | rfl | exact base_len | exact base_len0); kernel_rfl)
        | (with_reducible refine vcD_nil ?_)
        | (with_reducible refine vcL_nil ?_)
        | (with_reducible (first | refine vcD_cons fun K' hK' => ?_ | refine vcL_cons fun K' hK' => ?_); simp only [isC, Bool.false_or, Bool.or_true, vAppend, elems, ↓reduceDIte, List.take_length, Nat.le_refl, List.drop_zero, vGuard, undef, Bool.not_eq_eq_eq_not, dstOk, vcOp, vcF, isPure, putS, vcCall, St.ev, St.put, lk, AVal.ofVal, initS, Nat.reduceLT, true_and, and_true, vBin, vUn, vPick, vConv, vPart, vLoad, vStore, vIdxA, vIdx, vFldA, vExt, vLen, vMin, vNil, vAlloc, vBox, vBuild, vBuildSl, vMake, vSlice, bnd, partsA, fillA, decAll, AVal.flat, AVal.cell, cellsOk, setRange, ETy.enc, ETy.dec, ETy.sz, ETy.d, cond, Nat.reduceBEq, Nat.reduceAdd, Int.toNat_natCast, List.length_set, List.length_append, List.length_replicate, List.length_take, Nat.reduceSub, Nat.reduceEqDiff, get_loc, setBox_loc, next_eq, List.length_cons, List.length_nil, List.map_cons, List.map_nil, List.append_nil, List.nil_append, List.cons_append, List.set_cons_zero, List.set_cons_succ, getD_zero, getD_succ, List.getElem?_cons_succ, List.getElem?_cons_zero, List.take_succ_cons, List.take_zero, List.drop_succ_cons, List.drop_zero, List.all_cons, List.all_nil, Bool.and_true, Bool.true_and, Option.bind_some, Option.map_some, Option.map_none, decide_eq_true_eq, decide_eq_false_iff_not, ne_eq, Bool.not_eq_true, Bool.not_eq_false, Decidable.not_not, not_true_eq_false, not_false_eq_true, forall_const, false_implies, Bool.true_eq_false, Bool.false_eq_true, reduceCtorEq, decide_true, decide_false, Bool.not_true, Bool.not_false, if_true, if_false, Nat.zero_add, Nat.lt_irrefl, Value.oneCell', gt_iff_lt, Nat.reduceLeDiff, Nat.lt_add_one, List.length_append, vSealSl, vMakeMap, vLookup, vMapUpd, vMapEnt, vEntSt, vRange, vEntry, KK.of, KK.av, lkRes, entry_last, vvar_2, vzero_2, vknd_2, vsn_2, vvar_3, vzero_3, vknd_3, vsn_3, vvar_4, vzero_4, vknd_4, vsn_4, vsl_22, vkn_22, vvar_22, vzero_22, vsl_44, vkn_44, vvar_44, vzero_44, vvar_74, vzero_74, vsl_76, vkn_76, vvar_76, vzero_76, vsl_81, vkn_81, vvar_81, vzero_81, vvar_83, vzero_83, vbld_83, vsl_84, vkn_84, vvar_84, vzero_84, vfld_83_0, vfld_83_1, vfld_83_2, hat, lA, lB]; try simp (disch := omega) only [wrap64])
        | (with_reducible refine hK' _ ?_; clear hK' K')
        | (with_reducible refine hK _ ?_; clear hK K)
        | (with_reducible refine And.intro (And.intro rfl rfl) ?_)
        | (with_reducible refine And.intro (by omega) ?_)
        | (with_reducible refine And.intro (fun hg => ?_) (fun hg => ?_) <;> first | simp only [eq_false hg, decide_true, decide_false, and_true, true_and, and_false, false_and, not_true_eq_false, not_false_eq_true] | simp only [eq_true hg, decide_true, decide_false, and_true, true_and, and_false, false_and, not_true_eq_false, not_false_eq_true] | simp only [hg, decide_true, decide_false, and_true, true_and, and_false, false_and, not_true_eq_false, not_false_eq_true])
        | (with_reducible refine And.intro rfl (And.intro rfl rfl))
        | (with_reducible refine thenQ_n ?_)
        | (with_reducible refine thenQ_exit ?_)
        | (with_reducible refine thenQ_ret ?_)
        | (with_reducible refine midQ_ret ?_)
        | (with_reducible refine midQ_exit ?_)
        | (with_reducible refine blockQ_same ?_)
        | (with_reducible refine blockQ_ret ?_)
        | (with_reducible refine blockQ_n ?_)
        | (with_reducible refine AW.exit ?_)
        | (with_reducible refine AW.block ?_)
        | (with_reducible refine AW.cond_t rfl ?_)
        | (with_reducible refine AW.cond_f rfl ?_)
        | (with_reducible refine AW.cond_dec rfl (fun hc => ?_) (fun hc => ?_))
        | (with_reducible refine AW.cond rfl (fun hc => ?_) (fun hc => ?_) <;> try simp only [Bool.not_eq_eq_eq_not, Bool.not_true, Bool.not_false, decide_eq_true_eq, decide_eq_false_iff_not] at hc)
        | (with_reducible refine AW.seq ?_)
        | (with_reducible refine AW.skip ?_)
        | (with_reducible refine AW.ret ?_)
        | (with_reducible refine And.intro ?_ ?_)
        | (with_reducible intro hg; first | simp only [eq_false hg, decide_true, decide_false, and_true, true_and, and_false, false_and, not_true_eq_false, not_false_eq_true] | simp only [eq_true hg, decide_true, decide_false, and_true, true_and, and_false, false_and, not_true_eq_false, not_false_eq_true])
        | (with_reducible refine retQ_drop ?_; simp only [vRes, packRes, vLoad, vPart, lk, cond, Nat.reduceBEq, get_loc, getD_zero, getD_succ, true_and, List.length_cons, List.length_nil, Nat.reduceAdd, Nat.reduceLT, Nat.reduceLeDiff, List.take_succ_cons, List.take_zero, List.drop_succ_cons, List.drop_zero, vvar_2, vzero_2, vknd_2, vsn_2, vvar_3, vzero_3, vknd_3, vsn_3, vvar_4, vzero_4, vknd_4, vsn_4, vsl_22, vkn_22, vvar_22, vzero_22, vsl_44, vkn_44, vvar_44, vzero_44, vvar_74, vzero_74, vsl_76, vkn_76, vvar_76, vzero_76, vsl_81, vkn_81, vvar_81, vzero_81, vvar_83, vzero_83, vbld_83, vsl_84, vkn_84, vvar_84, vzero_84, vfld_83_0, vfld_83_1, vfld_83_2])
        )
      all_goals first
        | (obtain rfl : k = ns.length := by omega
           refine ⟨i + 1, ⟨by omega, fun j hj => ?_⟩, by omega, (Weak.slots (by repeat' first | exact trivial | exact ⟨rfl, trivial⟩ | refine ⟨rfl, ?_⟩))⟩
           by_cases e : j = i
           · subst e; exact fun q hq => hK q hq
           · exact hI j (by omega))
        | (have hkn : k < ns.length := by omega
           have hin : i < ns.length := by omega
           have eA := (hA2 i hin).2 k hkn
           have eB := (hR2 i hin).2 k hkn
           have e1 := atR_get (L := tr) hin
           have e2 := atR_get (L := tr) hkn
           first
             | (refine ⟨k + 1, ⟨by omega, fun j hj => ?_⟩, by omega, (Weak.slots (by repeat' first | exact trivial | exact ⟨rfl, trivial⟩ | refine ⟨rfl, ?_⟩))⟩
                by_cases e : j = k
                · subst e
                  unfold PairOk
                  rw [← eA, ← eB, ← e1, ← e2]
                  simp_all
                · exact hK j (by omega))
             | (refine ⟨_, _, FinOk.drop hB (Pl.ids (by (repeat' (first | exact Pl.v _ | exact Pl.junk | exact Pl.rd rfl _ | exact pl_nil | refine pl_cons ?_ ?_ | refine Pl.agg ?_ | refine Pl.tup ?_ | refine Pl.rp ?_ | refine Pl.fn ?_)); (first | done | fail))), ?_, rfl⟩
                refine v_bool ?_
                simp only [Bool.false_eq_true, false_iff]
                intro hgd
                have h9 := hgd.pairOk hin hkn
                unfold PairOk at h9
                rw [← eA, ← eB, ← e1, ← e2] at h9
                obtain ⟨h7, h8⟩ := h9
                first
                  | exact h7 ⟨by assumption, by assumption⟩
                  | exact h8 ⟨by assumption, by assumption⟩))
    · obtain rfl : i = ns.length := by omega
      refine ⟨_, _, FinOk.drop hB (Pl.ids (by (repeat' (first | exact Pl.v _ | exact Pl.junk | exact Pl.rd rfl _ | exact pl_nil | refine pl_cons ?_ ?_ | refine Pl.agg ?_ | refine Pl.tup ?_ | refine Pl.rp ?_ | refine Pl.fn ?_)); (first | done | fail))), ?_, rfl⟩
      refine v_bool ?_
      rw [decide_eq_true_eq, ← good_iff hn hT hI]
      omega
end Go.Proofs.Ytdphlhplcmjepaa
end
section
set_option linter.unusedSimpArgs false
set_option linter.unusedVariables false
set_option maxHeartbeats 1000000
namespace Go.Proofs.Ytdphlhplcmjepaa
open Go.Eng
theorem max70_ac (a b : Int) (H : List ABox) : AC Try.prog 70 [.v (.int .i64 (a)), .v (.int .i64 (b))] H (fun r H' => r = .v (.int .i64 (max a b)) ∧ H' = H) := by
  refine AC.enter envOk Try.func70 rfl (by decide) Try.ntmps70 Try.results70 (by simp) fun hB => ?_
  repeat' (first
    | (with_reducible refine AW.sreg envOk fun K hK => ?_)
    | (with_reducible refine AW.region envOk fun K hK => ?_)
    | (with_reducible refine vcL_nil ?_)
    | (with_reducible (first | refine vcL_cons fun K' hK' => ?_); simp only [isC, Bool.false_or, Bool.or_true, vAppend, elems, ↓reduceDIte, List.take_length, Nat.le_refl, List.drop_zero, vGuard, undef, Bool.not_eq_eq_eq_not, dstOk, vcOp, vcF, isPure, putS, vcCall, St.ev, St.put, lk, AVal.ofVal, initS, Nat.reduceLT, true_and, and_true, vBin, vUn, vPick, vConv, vPart, vLoad, vStore, vIdxA, vIdx, vFldA, vExt, vLen, vMin, vNil, vAlloc, vBox, vBuild, vBuildSl, vMake, vSlice, bnd, partsA, fillA, decAll, AVal.flat, AVal.cell, cellsOk, setRange, ETy.enc, ETy.dec, ETy.sz, ETy.d, cond, Nat.reduceBEq, Nat.reduceAdd, Int.toNat_natCast, List.length_set, List.length_append, List.length_replicate, List.length_take, Nat.reduceSub, Nat.reduceEqDiff, get_loc, setBox_loc, next_eq, List.length_cons, List.length_nil, List.map_cons, List.map_nil, List.append_nil, List.nil_append, List.cons_append, List.set_cons_zero, List.set_cons_succ, getD_zero, getD_succ, List.getElem?_cons_succ, List.getElem?_cons_zero, List.take_succ_cons, List.take_zero, List.drop_succ_cons, List.drop_zero, List.all_cons, List.all_nil, Bool.and_true, Bool.true_and, Option.bind_some, Option.map_some, Option.map_none, decide_eq_true_eq, decide_eq_false_iff_not, ne_eq, Bool.not_eq_true, Bool.not_eq_false, Decidable.not_not, not_true_eq_false, not_false_eq_true, forall_const, false_implies, Bool.true_eq_false, Bool.false_eq_true, reduceCtorEq, decide_true, decide_false, Bool.not_true, Bool.not_false, if_true, if_false, Nat.zero_add, Nat.lt_irrefl, Value.oneCell', gt_iff_lt, Nat.reduceLeDiff, Nat.lt_add_one, List.length_append, vSealSl, vMakeMap, vLookup, vMapUpd, vMapEnt, vEntSt, vRange, vEntry, KK.of, KK.av, lkRes, entry_last, vvar_2, vzero_2, vknd_2, vsn_2, vvar_4, vzero_4, vknd_4, vsn_4]; try simp (disch := omega) only [wrap64])
    | (with_reducible refine hK' _ ?_; clear hK' K')
    | (with_reducible refine hK _ ?_; clear hK K)
    | (with_reducible refine And.intro (And.intro rfl rfl) ?_)
    | (with_reducible refine And.intro (by omega) ?_)
    | (with_reducible refine And.intro (fun hg => ?_) (fun hg => ?_) <;> first | simp only [eq_false hg, decide_true, decide_false, and_true, true_and, and_false, false_and, not_true_eq_false, not_false_eq_true] | simp only [eq_true hg, decide_true, decide_false, and_true, true_and, and_false, false_and, not_true_eq_false, not_false_eq_true] | simp only [hg, decide_true, decide_false, and_true, true_and, and_false, false_and, not_true_eq_false, not_false_eq_true])
    | (with_reducible refine And.intro rfl (And.intro rfl rfl))
    | (with_reducible refine thenQ_n ?_)
    | (with_reducible refine thenQ_exit ?_)
    | (with_reducible refine thenQ_ret ?_)
    | (with_reducible refine midQ_ret ?_)
    | (with_reducible refine midQ_exit ?_)
    | (with_reducible refine blockQ_same ?_)
    | (with_reducible refine blockQ_ret ?_)
    | (with_reducible refine blockQ_n ?_)
    | (with_reducible refine AW.exit ?_)
    | (with_reducible refine AW.block ?_)
    | (with_reducible refine AW.cond_t rfl ?_)
    | (with_reducible refine AW.cond_f rfl ?_)
    | (with_reducible refine AW.cond_dec rfl (fun hc => ?_) (fun hc => ?_))
    | (with_reducible refine AW.cond rfl (fun hc => ?_) (fun hc => ?_) <;> try simp only [Bool.not_eq_eq_eq_not, Bool.not_true, Bool.not_false, decide_eq_true_eq, decide_eq_false_iff_not] at hc)
    | (with_reducible refine AW.seq ?_)
    | (with_reducible refine AW.skip ?_)
    | (with_reducible refine AW.ret ?_)
    | (with_reducible refine And.intro ?_ ?_)
    | (with_reducible intro hg; first | simp only [eq_false hg, decide_true, decide_false, and_true, true_and, and_false, false_and, not_true_eq_false, not_false_eq_true] | simp only [eq_true hg, decide_true, decide_false, and_true, true_and, and_false, false_and, not_true_eq_false, not_false_eq_true])
    | (with_reducible refine retQ_drop ?_; simp only [vRes, packRes, vLoad, vPart, lk, cond, Nat.reduceBEq, get_loc, getD_zero, getD_succ, true_and, List.length_cons, List.length_nil, Nat.reduceAdd, Nat.reduceLT, Nat.reduceLeDiff, List.take_succ_cons, List.take_zero, List.drop_succ_cons, List.drop_zero, vvar_2, vzero_2, vknd_2, vsn_2, vvar_4, vzero_4, vknd_4, vsn_4])
    )
  all_goals refine ⟨_, _, FinOk.drop hB (Pl.ids (by (repeat' (first | exact Pl.v _ | exact Pl.junk | exact Pl.rd rfl _ | exact pl_nil | refine pl_cons ?_ ?_ | refine Pl.agg ?_ | refine Pl.tup ?_ | refine Pl.rp ?_ | refine Pl.fn ?_)); (first | done | fail))), ?_, rfl⟩
  all_goals (simp only [AVal.tup.injEq, AVal.agg.injEq, List.cons.injEq, AVal.v.injEq, Value.int.injEq, Value.bool.injEq, Value.string.injEq, true_and, and_true]; omega)
end Go.Proofs.Ytdphlhplcmjepaa
end
section
set_option linter.unusedSimpArgs false
set_option linter.unusedVariables false
set_option maxHeartbeats 20000000
namespace Go.Proofs.Ytdphlhplcmjepaa
open Go.Eng
theorem min89_ac (a b : Int) (H : List ABox) : AC Try.prog 89 [.v (.int .i64 (a)), .v (.int .i64 (b))] H (fun r H' => r = .v (.int .i64 (min a b)) ∧ H' = H) := by
  refine AC.enter envOk Try.func89 rfl (by decide) Try.ntmps89 Try.results89 (by simp) fun hB => ?_
  repeat' (first
    | (with_reducible refine AW.sreg envOk fun K hK => ?_)
    | (with_reducible refine AW.region envOk fun K hK => ?_)
    | (with_reducible refine vcL_nil ?_)
    | (with_reducible (first | refine vcL_cons fun K' hK' => ?_); simp only [isC, Bool.false_or, Bool.or_true, vAppend, elems, ↓reduceDIte, List.take_length, Nat.le_refl, List.drop_zero, vGuard, undef, Bool.not_eq_eq_eq_not, dstOk, vcOp, vcF, isPure, putS, vcCall, St.ev, St.put, lk, AVal.ofVal, initS, Nat.reduceLT, true_and, and_true, vBin, vUn, vPick, vConv, vPart, vLoad, vStore, vIdxA, vIdx, vFldA, vExt, vLen, vMin, vNil, vAlloc, vBox, vBuild, vBuildSl, vMake, vSlice, bnd, partsA, fillA, decAll, AVal.flat, AVal.cell, cellsOk, setRange, ETy.enc, ETy.dec, ETy.sz, ETy.d, cond, Nat.reduceBEq, Nat.reduceAdd, Int.toNat_natCast, List.length_set, List.length_append, List.length_replicate, List.length_take, Nat.reduceSub, Nat.reduceEqDiff, get_loc, setBox_loc, next_eq, List.length_cons, List.length_nil, List.map_cons, List.map_nil, List.append_nil, List.nil_append, List.cons_append, List.set_cons_zero, List.set_cons_succ, getD_zero, getD_succ, List.getElem?_cons_succ, List.getElem?_cons_zero, List.take_succ_cons, List.take_zero, List.drop_succ_cons, List.drop_zero, List.all_cons, List.all_nil, Bool.and_true, Bool.true_and, Option.bind_some, Option.map_some, Option.map_none, decide_eq_true_eq, decide_eq_false_iff_not, ne_eq, Bool.not_eq_true, Bool.not_eq_false, Decidable.not_not, not_true_eq_false, not_false_eq_true, forall_const, false_implies, Bool.true_eq_false, Bool.false_eq_true, reduceCtorEq, decide_true, decide_false, Bool.not_true, Bool.not_false, if_true, if_false, Nat.zero_add, Nat.lt_irrefl, Value.oneCell', gt_iff_lt, Nat.reduceLeDiff, Nat.lt_add_one, List.length_append, vSealSl, vMakeMap, vLookup, vMapUpd, vMapEnt, vEntSt, vRange, vEntry, KK.of, KK.av, lkRes, entry_last, vvar_2, vzero_2, vknd_2, vsn_2, vvar_4, vzero_4, vknd_4, vsn_4]; try simp (disch := omega) only [wrap64])
    | (with_reducible refine hK' _ ?_; clear hK' K')
    | (with_reducible refine hK _ ?_; clear hK K)
    | (with_reducible refine And.intro (And.intro rfl rfl) ?_)
    | (with_reducible refine And.intro (by omega) ?_)
    | (with_reducible refine And.intro (fun hg => ?_) (fun hg => ?_) <;> first | simp only [eq_false hg, decide_true, decide_false, and_true, true_and, and_false, false_and, not_true_eq_false, not_false_eq_true] | simp only [eq_true hg, decide_true, decide_false, and_true, true_and, and_false, false_and, not_true_eq_false, not_false_eq_true] | simp only [hg, decide_true, decide_false, and_true, true_and, and_false, false_and, not_true_eq_false, not_false_eq_true])
    | (with_reducible refine And.intro rfl (And.intro rfl rfl))
    | (with_reducible refine thenQ_n ?_)
    | (with_reducible refine thenQ_exit ?_)
    | (with_reducible refine thenQ_ret ?_)
    | (with_reducible refine midQ_ret ?_)
    | (with_reducible refine midQ_exit ?_)
    | (with_reducible refine blockQ_same ?_)
    | (with_reducible refine blockQ_ret ?_)
    | (with_reducible refine blockQ_n ?_)
    | (with_reducible refine AW.exit ?_)
    | (with_reducible refine AW.block ?_)
    | (with_reducible refine AW.cond_t rfl ?_)
    | (with_reducible refine AW.cond_f rfl ?_)
    | (with_reducible refine AW.cond_dec rfl (fun hc => ?_) (fun hc => ?_))
    | (with_reducible refine AW.cond rfl (fun hc => ?_) (fun hc => ?_) <;> try simp only [Bool.not_eq_eq_eq_not, Bool.not_true, Bool.not_false, decide_eq_true_eq, decide_eq_false_iff_not] at hc)
    | (with_reducible refine AW.seq ?_)
    | (with_reducible refine AW.skip ?_)
    | (with_reducible refine AW.ret ?_)
    | (with_reducible refine And.intro ?_ ?_)
    | (with_reducible intro hg; first | simp only [eq_false hg, decide_true, decide_false, and_true, true_and, and_false, false_and, not_true_eq_false, not_false_eq_true] | simp only [eq_true hg, decide_true, decide_false, and_true, true_and, and_false, false_and, not_true_eq_false, not_false_eq_true])
    | (with_reducible refine retQ_drop ?_; simp only [vRes, packRes, vLoad, vPart, lk, cond, Nat.reduceBEq, get_loc, getD_zero, getD_succ, true_and, List.length_cons, List.length_nil, Nat.reduceAdd, Nat.reduceLT, Nat.reduceLeDiff, List.take_succ_cons, List.take_zero, List.drop_succ_cons, List.drop_zero, vvar_2, vzero_2, vknd_2, vsn_2, vvar_4, vzero_4, vknd_4, vsn_4])
    )
  all_goals refine ⟨_, _, FinOk.drop hB (Pl.ids (by (repeat' (first | exact Pl.v _ | exact Pl.junk | exact Pl.rd rfl _ | exact pl_nil | refine pl_cons ?_ ?_ | refine Pl.agg ?_ | refine Pl.tup ?_ | refine Pl.rp ?_ | refine Pl.fn ?_)); (first | done | fail))), ?_, rfl⟩
  all_goals (congr 2; omega)
/-- As PB, by the columns below a. -/
def PBto (c : Ch) (p q : List Int) (x : Nat) : Prop := p.getD 0 0 ≠ q.getD 0 0 ∧ ∃ a : Nat, (p.getD 1 0 ≤ a ∧ a ≤ p.getD 2 0) ∧ (q.getD 1 0 ≤ a ∧ a ≤ q.getD 2 0) ∧ a < x ∧ c.1.getD a 0 = p.getD 0 0 ∧ c.2.getD a 0 = q.getD 0 0
noncomputable instance (c : Ch) (p q : List Int) (x : Nat) : Decidable (PBto c p q x) := Classical.propDecidable _
theorem PBto_start (c : Ch) (p q : List Int) {x : Nat} (h : (x : Int) ≤ max (p.getD 1 0) (q.getD 1 0)) : ¬ PBto c p q x := fun ⟨_, a, h1, h2, h3, _⟩ => by omega
theorem PBto_step {c : Ch} {p q : List Int} {x : Nat} (h0 : p.getD 0 0 ≠ q.getD 0 0) (h1 : max (p.getD 1 0) (q.getD 1 0) ≤ x) (h2 : (x : Int) ≤ min (p.getD 2 0) (q.getD 2 0)) :
    PBto c p q (x + 1) ↔ (PBto c p q x ∨ (c.1.getD x 0 = p.getD 0 0 ∧ c.2.getD x 0 = q.getD 0 0)) := by
  constructor
  · rintro ⟨_, a, g1, g2, g3, g4⟩
    by_cases e : a = x
    · subst e; exact .inr g4
    · exact .inl ⟨h0, a, g1, g2, by omega, g4⟩
  · rintro (⟨_, a, g1, g2, g3, g4⟩ | g)
    · exact ⟨h0, a, g1, g2, by omega, g4⟩
    · exact ⟨h0, x, by omega, by omega, by omega, g⟩
theorem PBto_end {c : Ch} {p q : List Int} {x : Nat} (h : ¬ ((x : Int) ≤ min (p.getD 2 0) (q.getD 2 0) ∧ p.getD 0 0 ≠ q.getD 0 0)) : PBto c p q x ↔ PB c p q := by
  constructor
  · rintro ⟨h0, a, g1, g2, g3, g4⟩
    exact ⟨h0, a, g1, g2, g4⟩
  · rintro ⟨h0, a, g1, g2, g4⟩
    exact ⟨h0, a, g1, g2, by
      have : ¬ (x : Int) ≤ min (p.getD 2 0) (q.getD 2 0) := fun e => h ⟨e, h0⟩
      omega, g4⟩
theorem fillB_no {xs : List Bool} {k : Nat} (h : k < xs.length) : (fillB xs k).set k false = fillB xs k := by
  unfold fillB
  have e : List.replicate (xs.length - k) false = false :: List.replicate (xs.length - (k + 1)) false := by
    rw [show xs.length - k = xs.length - (k + 1) + 1 by omega]; rfl
  have hl : (xs.take k).length = k := by simp; omega
  rw [List.set_append, if_neg (by omega), hl, Nat.sub_self, e]; rfl
theorem idx_nodup (n : Nat) : (idx n).Nodup := sorted_nodup (idx_pw n)
noncomputable def op0 (H : List ABox) (P : Mz) (ma mb : List (List Bool)) (kc : Nat) : St := (⟨162, [(0, .ptr 1 kc 0 0), (3, .sl 1 (H.length + 0) 0 (P.length)), (4, .ptr 1 (H.length + 2) 0 0), (5, .v (.int .i64 ((0))))], H, [.row false (.sli .i64) P, .row false (.int .i64) [], .box false [.sl 1 (H.length + 1) 0 0, .v (.slice none 0 0), .v (.slice none 0 0)]]⟩ : St)
noncomputable def op1 (H : List ABox) (P : Mz) (ma mb : List (List Bool)) (kc i : Nat) : St := (⟨162, [(0, .ptr 1 kc 0 0), (3, .sl 1 (H.length + 0) 0 (P.length)), (4, .ptr 1 (H.length + 2) 0 0), (5, .v (.int .i64 ((((i + 1 : Nat) : Int)))))], H, [.row false (.sli .i64) P, .row false (.int .i64) (idx (i + 1)), .box false [.sl 1 (H.length + 1) 0 (i + 1), .sl 1 (H.length + 3) 0 (i + 1), .sl 1 (H.length + 4) 0 (i + 1)], .row false .slb (ma.take (i + 1)), .row false .slb (mb.take (i + 1))]⟩ : St)
noncomputable def opS (H : List ABox) (P : Mz) (ma mb : List (List Bool)) (kc : Nat) : Nat → St
  | 0 => op0 H P ma mb kc
  | i + 1 => op1 H P ma mb kc i
noncomputable def opNew (H : List ABox) (P : Mz) (ma mb : List (List Bool)) : List ABox := if P.length = 0 then (⟨1, [], H, [.row false (.sli .i64) P, .row false (.int .i64) [], .box false [.sl 1 (H.length + 1) 0 0, .v (.slice none 0 0), .v (.slice none 0 0)]]⟩ : St).loc else (⟨1, [], H, [.row false (.sli .i64) P, .row false (.int .i64) (idx P.length), .box false [.sl 1 (H.length + 1) 0 (P.length), .sl 1 (H.length + 3) 0 (P.length), .sl 1 (H.length + 4) 0 (P.length)], .row false .slb ma, .row false .slb mb]⟩ : St).loc
theorem takeB_snoc {l : List (List Bool)} {i : Nat} (h : i < l.length) : l.take (i + 1) = l.take i ++ [l.getD i []] := by
  rw [List.take_add_one, List.getElem?_eq_getElem h]; simp [List.getD, h]
/-- The walk but for the rounds of its loop. -/
noncomputable def of77R (c : Ch) (P : Mz) (hx : c.1.length ≤ 1000) (hy : c.2.length = c.1.length) (hPl : P.length ≤ 2000) (hPi : ∀ i, i < P.length → PieceIs c (P.getD i [])) (ma mb : List (List Bool)) (lma : ma.length = P.length) (lmb : mb.length = P.length)
    (hma : ∀ i, i < P.length → (ma.getD i []).length = P.length ∧ ∀ k, k < P.length → (ma.getD i []).getD k false = decide (PA (P.getD i []) (P.getD k [])))
    (hmb : ∀ i, i < P.length → (mb.getD i []).length = P.length ∧ ∀ k, k < P.length → (mb.getD i []).getD k false = decide (PB c (P.getD i []) (P.getD k [])))
    {H : List ABox} {kc : Nat} (hkc : H[kc]? = some (.box false [.rd (.int .i64) c.1, .rd (.int .i64) c.2])) (h64 : ∀ l, AC Try.prog 64 [.ptr 1 kc 0 0] (H ++ l) (fun r H' => r = .sl 1 (H ++ l).length 0 P.length ∧ H' = (H ++ l) ++ [.row false (.sli .i64) P])) :
    {G : Prop × Prop // G.1 → G.2 → AC Try.prog 77 [.ptr 1 kc 0 0] H
    (fun r H' => r = .ptr 1 (H.length + 2) 0 0 ∧ H' = H ++ opNew H P ma mb)} :=
  ⟨(_, _), fun hG0 hG1 => by
  have hkl : kc < H.length := (List.getElem?_eq_some_iff.1 hkc).1
  have hgb : ∀ N s l, St.get ⟨N, s, H, l⟩ kc = .box false [.rd (.int .i64) c.1, .rd (.int .i64) c.2] := fun N s l => get_base hkc
  refine AC.enter envOk Try.func77 rfl (by decide) Try.ntmps77 Try.results77 (by simp) fun hB => ?_
  repeat' (first
    | (with_reducible refine AW.dreg (id := 13) envOk mixed [(false, 0, 0), (false, 0, 0), (false, 0, 0), (false, 0, 0), (false, 0, 0), (false, 0, 0), (false, 0, 0), (false, 0, 0), (false, 0, 0), (false, 0, 0), (false, 0, 0), (false, 0, 0), (false, 0, 0), (false, 0, 0), (false, 0, 0), (false, 0, 0), (false, 0, 0), (false, 0, 0), (false, 0, 0), (false, 0, 0), (false, 0, 0), (false, 0, 0), (false, 0, 0), (false, 0, 0), (false, 0, 0), (false, 0, 0), (false, 0, 0), (false, 0, 0), (true, 0, 0)] ?_ ?_ fun K hK => ?_; kernel_rfl; (first | rfl | exact base_len | exact base_len0))
    | (with_reducible refine AW.dregion (id := 13) envOk mixed [(false, 0, 0), (false, 0, 0), (false, 0, 0), (false, 0, 0), (false, 0, 0), (false, 0, 0), (false, 0, 0), (false, 0, 0), (false, 0, 0), (false, 0, 0), (false, 0, 0), (false, 0, 0), (false, 0, 0), (false, 0, 0), (false, 0, 0), (false, 0, 0), (false, 0, 0), (false, 0, 0), (false, 0, 0), (false, 0, 0), (false, 0, 0), (false, 0, 0), (false, 0, 0), (false, 0, 0), (false, 0, 0), (false, 0, 0), (false, 0, 0), (false, 0, 0), (true, 0, 0)] ?_ ?_ fun K hK => ?_; kernel_rfl; (first | rfl | exact base_len | exact base_len0))
    | (with_reducible refine AW.dreg (id := 17) envOk mixed [(false, 0, 0), (false, 0, 0), (false, 0, 0), (false, 0, 0), (false, 0, 0), (false, 0, 0), (false, 0, 0), (false, 0, 0), (false, 0, 0), (false, 0, 0), (false, 0, 0), (false, 0, 0), (false, 0, 0), (false, 0, 0), (false, 0, 0), (false, 0, 0), (false, 0, 0), (false, 0, 0), (false, 0, 0), (false, 0, 0), (false, 0, 0), (false, 0, 0), (false, 0, 0), (false, 0, 0), (false, 0, 0), (false, 0, 0), (false, 0, 0), (false, 0, 0), (false, 0, 0), (false, 0, 0), (false, 0, 0), (false, 0, 0), (false, 0, 0), (true, 0, 0)] ?_ ?_ fun K hK => ?_; kernel_rfl; (first | rfl | exact base_len | exact base_len0))
    | (with_reducible refine AW.dregion (id := 17) envOk mixed [(false, 0, 0), (false, 0, 0), (false, 0, 0), (false, 0, 0), (false, 0, 0), (false, 0, 0), (false, 0, 0), (false, 0, 0), (false, 0, 0), (false, 0, 0), (false, 0, 0), (false, 0, 0), (false, 0, 0), (false, 0, 0), (false, 0, 0), (false, 0, 0), (false, 0, 0), (false, 0, 0), (false, 0, 0), (false, 0, 0), (false, 0, 0), (false, 0, 0), (false, 0, 0), (false, 0, 0), (false, 0, 0), (false, 0, 0), (false, 0, 0), (false, 0, 0), (false, 0, 0), (false, 0, 0), (false, 0, 0), (false, 0, 0), (false, 0, 0), (true, 0, 0)] ?_ ?_ fun K hK => ?_; kernel_rfl; (first | rfl | exact base_len | exact base_len0))
    | (with_reducible refine vcDr_nil ?_)
    | (with_reducible refine hK' _ _ _ _ _ ?_; clear hK' K')
    | (with_reducible refine hK _ _ ?_; clear hK K; dsimp only)
    | (with_reducible refine AW.sreg envOk fun K hK => ?_)
    | (with_reducible refine AW.region envOk fun K hK => ?_)
    | (with_reducible refine AW.d0reg envOk mixed ?_ ?_ fun K hK => ?_; (first | rfl | exact base_len | exact base_len0); kernel_rfl)
    | (with_reducible refine AW.d0 envOk mixed ?_ ?_ fun K hK => ?_; (first | rfl | exact base_len | exact base_len0); kernel_rfl)
    | (with_reducible refine vcD_nil ?_)
    | (with_reducible refine vcL_nil ?_)
    | (with_reducible (first | refine vcDr_cons fun K' hK' => ?_ | refine vcD_cons fun K' hK' => ?_ | refine vcL_cons fun K' hK' => ?_); simp only [isC, Bool.false_or, Bool.or_true, vAppend, elems, ↓reduceDIte, List.take_length, Nat.le_refl, List.drop_zero, vGuard, undef, Bool.not_eq_eq_eq_not, dstOk, vcOp, vcF, isPure, putS, vcCall, St.ev, St.put, lk, AVal.ofVal, initS, Nat.reduceLT, true_and, and_true, vBin, vUn, vPick, vConv, vPart, vLoad, vStore, vIdxA, vIdx, vFldA, vExt, vLen, vMin, vNil, vAlloc, vBox, vBuild, vBuildSl, vMake, vSlice, bnd, partsA, fillA, decAll, AVal.flat, AVal.cell, cellsOk, setRange, ETy.enc, ETy.dec, ETy.sz, ETy.d, cond, Nat.reduceBEq, Nat.reduceAdd, Int.toNat_natCast, List.length_set, List.length_append, List.length_replicate, List.length_take, Nat.reduceSub, Nat.reduceEqDiff, get_loc, setBox_loc, next_eq, List.length_cons, List.length_nil, List.map_cons, List.map_nil, List.append_nil, List.nil_append, List.cons_append, List.set_cons_zero, List.set_cons_succ, getD_zero, getD_succ, List.getElem?_cons_succ, List.getElem?_cons_zero, List.take_succ_cons, List.take_zero, List.drop_succ_cons, List.drop_zero, List.all_cons, List.all_nil, Bool.and_true, Bool.true_and, Option.bind_some, Option.map_some, Option.map_none, decide_eq_true_eq, decide_eq_false_iff_not, ne_eq, Bool.not_eq_true, Bool.not_eq_false, Decidable.not_not, not_true_eq_false, not_false_eq_true, forall_const, false_implies, Bool.true_eq_false, Bool.false_eq_true, reduceCtorEq, decide_true, decide_false, Bool.not_true, Bool.not_false, if_true, if_false, Nat.zero_add, Nat.lt_irrefl, Value.oneCell', gt_iff_lt, Nat.reduceLeDiff, Nat.lt_add_one, List.length_append, vSealSl, vMakeMap, vLookup, vMapUpd, vMapEnt, vEntSt, vRange, vEntry, KK.of, KK.av, lkRes, entry_last, vvar_1, vzero_1, vvar_2, vzero_2, vknd_2, vsn_2, vvar_3, vzero_3, vknd_3, vsn_3, vvar_4, vzero_4, vknd_4, vsn_4, vsl_22, vkn_22, vvar_22, vzero_22, vvar_27, vzero_27, vbld_27, vsl_44, vkn_44, vvar_44, vzero_44, vvar_53, vzero_53, vvar_74, vzero_74, vsl_81, vkn_81, vvar_81, vzero_81, vvar_83, vzero_83, vbld_83, vsl_84, vkn_84, vvar_84, vzero_84, vfld_27_0, vfld_27_1, vfld_83_0, vfld_83_1, vfld_83_2, effI, loI, hiI, pendOk, pastOk, OpOK, Nat.not_lt_zero, Nat.le_zero_eq, Nat.add_eq_zero_iff, Nat.one_ne_zero, and_false, Nat.zero_le, true_implies]; try simp (disch := omega) only [wrap64])
    | (with_reducible refine hK' _ ?_; clear hK' K')
    | (with_reducible refine hK _ ?_; clear hK K)
    | ((with_reducible show vCall _ (AVal.fn 64 _) _ _ _); refine vCall_newE (h64 _) (by simp only [List.length_append, List.length_cons, List.length_nil, Nat.reduceAdd]; rfl) ?_)
    | (with_reducible refine And.intro (And.intro rfl rfl) ?_)
    | (with_reducible refine And.intro (by omega) ?_)
    | (with_reducible refine And.intro (fun hg => ?_) (fun hg => ?_) <;> first | simp only [eq_false hg, decide_true, decide_false, and_true, true_and, and_false, false_and, not_true_eq_false, not_false_eq_true] | simp only [eq_true hg, decide_true, decide_false, and_true, true_and, and_false, false_and, not_true_eq_false, not_false_eq_true] | simp only [hg, decide_true, decide_false, and_true, true_and, and_false, false_and, not_true_eq_false, not_false_eq_true])
    | (with_reducible refine And.intro rfl (And.intro rfl rfl))
    | (with_reducible refine thenQ_n ?_)
    | (with_reducible refine thenQ_exit ?_)
    | (with_reducible refine thenQ_ret ?_)
    | (with_reducible refine midQ_ret ?_)
    | (with_reducible refine midQ_exit ?_)
    | (with_reducible refine blockQ_same ?_)
    | (with_reducible refine blockQ_ret ?_)
    | (with_reducible refine blockQ_n ?_)
    | (with_reducible refine AW.exit ?_)
    | (with_reducible refine AW.block ?_)
    | (with_reducible refine AW.cond_t rfl ?_)
    | (with_reducible refine AW.cond_f rfl ?_)
    | (with_reducible refine AW.cond_dec rfl (fun hc => ?_) (fun hc => ?_))
    | (with_reducible refine AW.cond rfl (fun hc => ?_) (fun hc => ?_) <;> try simp only [Bool.not_eq_eq_eq_not, Bool.not_true, Bool.not_false, decide_eq_true_eq, decide_eq_false_iff_not] at hc)
    | (with_reducible refine AW.seq ?_)
    | (with_reducible refine AW.skip ?_)
    | (with_reducible refine AW.ret ?_)
    | (with_reducible refine And.intro ?_ ?_)
    | (with_reducible intro hg; first | simp only [eq_false hg, decide_true, decide_false, and_true, true_and, and_false, false_and, not_true_eq_false, not_false_eq_true] | simp only [eq_true hg, decide_true, decide_false, and_true, true_and, and_false, false_and, not_true_eq_false, not_false_eq_true])
    | (with_reducible refine retQ_drop ?_; simp only [vRes, packRes, vLoad, vPart, lk, cond, Nat.reduceBEq, get_loc, getD_zero, getD_succ, true_and, List.length_cons, List.length_nil, Nat.reduceAdd, Nat.reduceLT, Nat.reduceLeDiff, List.take_succ_cons, List.take_zero, List.drop_succ_cons, List.drop_zero, vvar_1, vzero_1, vvar_2, vzero_2, vknd_2, vsn_2, vvar_3, vzero_3, vknd_3, vsn_3, vvar_4, vzero_4, vknd_4, vsn_4, vsl_22, vkn_22, vvar_22, vzero_22, vvar_27, vzero_27, vbld_27, vsl_44, vkn_44, vvar_44, vzero_44, vvar_53, vzero_53, vvar_74, vzero_74, vsl_81, vkn_81, vvar_81, vzero_81, vvar_83, vzero_83, vbld_83, vsl_84, vkn_84, vvar_84, vzero_84, vfld_27_0, vfld_27_1, vfld_83_0, vfld_83_1, vfld_83_2])
    )
  refine AW.loop (opS H P ma mb kc) (fun i => i ≤ P.length) (fun i => P.length - i) 0 (Nat.zero_le _) ?_ ?_
  · unfold opS op0
    exact (Weak.slots (by repeat' first | exact trivial | exact ⟨rfl, trivial⟩ | refine ⟨rfl, ?_⟩))
  intro i hi
  rcases i with _ | i
  · revert hi hB; exact hG0
  · revert hB i; exact hG1⟩
end Go.Proofs.Ytdphlhplcmjepaa
end

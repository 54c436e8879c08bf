/- Walks: the law of shifts. -/
import Derived.Test.YtlkamicaoljefaaW16
set_option linter.unusedSimpArgs false
set_option linter.unusedVariables false
set_option maxHeartbeats 2000000
namespace Go.Proofs.Ytlkamicaoljefaa
open Go.Eng

theorem FitAt_geq {xs ys : List Int} {t : Nat} {s : Int} {j : Nat} : FitAt xs ys t s j ↔ (t : Int) ≤ ys.getD (j + t) 0 - xs.getD j 0 - s ∧ (t : Int) ≤ xs.getD (j + t) 0 + s - ys.getD j 0 := by unfold FitAt; omega
theorem fit_succ {xs ys : List Int} {t : Nat} {s : Int} {i : Nat} : (∀ j, j < i + 1 → FitAt xs ys t s j) ↔ (∀ j, j < i → FitAt xs ys t s j) ∧ FitAt xs ys t s i :=
  ⟨fun h => ⟨fun j hj => h j (by omega), h i (by omega)⟩, fun h j hj => by
    by_cases e : j = i
    · subst e; exact h.2
    · exact h.1 j (by omega)⟩
theorem law16_ac (cs ds : List Int) (hc0 : cs.length ≤ 9223372036854775807) (hd0 : ds.length ≤ 9223372036854775807) (hu : U8 cs) (hv : U8 ds) (H : List ABox) : AC Try.prog 16 [.rd (.int .u8) cs, .rd (.int .u8) ds] H (fun r H' => r = .v (.bool true)) := by
  refine AC.enter envOk Try.func16 rfl (by decide) Try.ntmps16 Try.results16 (by simp) fun hB => ?_
  repeat' (first
    | (with_reducible refine AW.sreg envOk fun K hK => ?_)
    | (with_reducible refine AW.region envOk fun K hK => ?_)
    | (with_reducible refine AW.d0reg envOk mixed ?_ ?_ fun K hK => ?_; (first | rfl | exact base_len | exact base_len0); kernel_rfl)
    | (with_reducible refine AW.d0 envOk mixed ?_ ?_ fun K hK => ?_; (first | rfl | exact base_len | exact base_len0); kernel_rfl)
    | (with_reducible refine vcD_nil ?_)
    | (with_reducible refine vcD_cons fun K' hK' => ?_; simp only [vAppend, elems, ↓reduceDIte, List.take_length, Nat.le_refl, List.drop_zero, vGuard, undef, Bool.not_eq_eq_eq_not, dstOk, vcOp, vcF, isPure, putS, vcCall, St.ev, St.put, lk, AVal.ofVal, initS, Nat.reduceLT, true_and, and_true, vBin, vUn, vPick, vConv, vPart, vLoad, vStore, vIdxA, vIdx, vFldA, vExt, vLen, vMin, vNil, vAlloc, vBox, vBuild, vBuildSl, vMake, vSlice, bnd, partsA, fillA, decAll, AVal.flat, AVal.cell, cellsOk, setRange, ETy.enc, ETy.dec, ETy.sz, ETy.d, cond, Nat.reduceBEq, Nat.reduceAdd, Int.toNat_natCast, List.length_set, List.length_append, List.length_replicate, List.length_take, Nat.reduceSub, Nat.reduceEqDiff, get_loc, setBox_loc, next_eq, List.length_cons, List.length_nil, List.map_cons, List.map_nil, List.append_nil, List.nil_append, List.cons_append, List.set_cons_zero, List.set_cons_succ, getD_zero, getD_succ, List.getElem?_cons_succ, List.getElem?_cons_zero, List.take_succ_cons, List.take_zero, List.drop_succ_cons, List.drop_zero, List.all_cons, List.all_nil, Bool.and_true, Bool.true_and, Option.bind_some, Option.map_some, Option.map_none, decide_eq_true_eq, decide_eq_false_iff_not, ne_eq, Bool.not_eq_true, Bool.not_eq_false, Decidable.not_not, not_true_eq_false, not_false_eq_true, forall_const, false_implies, Bool.true_eq_false, Bool.false_eq_true, reduceCtorEq, decide_true, decide_false, Bool.not_true, Bool.not_false, if_true, if_false, Nat.zero_add, Nat.lt_irrefl, Value.oneCell', gt_iff_lt, Nat.reduceLeDiff, Nat.lt_add_one, List.length_append, vvar_2, vzero_2, vknd_2, vsn_2, vvar_4, vzero_4, vknd_4, vsn_4, vsl_33, vkn_33, vvar_33, vzero_33, vsl_48, vkn_48, vvar_48, vzero_48]; try simp (disch := omega) only [wrap64])
    | (with_reducible refine vcL_nil ?_)
    | (with_reducible refine vcL_cons fun K' hK' => ?_; simp only [vAppend, elems, ↓reduceDIte, List.take_length, Nat.le_refl, List.drop_zero, vGuard, undef, Bool.not_eq_eq_eq_not, dstOk, vcOp, vcF, isPure, putS, vcCall, St.ev, St.put, lk, AVal.ofVal, initS, Nat.reduceLT, true_and, and_true, vBin, vUn, vPick, vConv, vPart, vLoad, vStore, vIdxA, vIdx, vFldA, vExt, vLen, vMin, vNil, vAlloc, vBox, vBuild, vBuildSl, vMake, vSlice, bnd, partsA, fillA, decAll, AVal.flat, AVal.cell, cellsOk, setRange, ETy.enc, ETy.dec, ETy.sz, ETy.d, cond, Nat.reduceBEq, Nat.reduceAdd, Int.toNat_natCast, List.length_set, List.length_append, List.length_replicate, List.length_take, Nat.reduceSub, Nat.reduceEqDiff, get_loc, setBox_loc, next_eq, List.length_cons, List.length_nil, List.map_cons, List.map_nil, List.append_nil, List.nil_append, List.cons_append, List.set_cons_zero, List.set_cons_succ, getD_zero, getD_succ, List.getElem?_cons_succ, List.getElem?_cons_zero, List.take_succ_cons, List.take_zero, List.drop_succ_cons, List.drop_zero, List.all_cons, List.all_nil, Bool.and_true, Bool.true_and, Option.bind_some, Option.map_some, Option.map_none, decide_eq_true_eq, decide_eq_false_iff_not, ne_eq, Bool.not_eq_true, Bool.not_eq_false, Decidable.not_not, not_true_eq_false, not_false_eq_true, forall_const, false_implies, Bool.true_eq_false, Bool.false_eq_true, reduceCtorEq, decide_true, decide_false, Bool.not_true, Bool.not_false, if_true, if_false, Nat.zero_add, Nat.lt_irrefl, Value.oneCell', gt_iff_lt, Nat.reduceLeDiff, Nat.lt_add_one, List.length_append, vvar_2, vzero_2, vknd_2, vsn_2, vvar_4, vzero_4, vknd_4, vsn_4, vsl_33, vkn_33, vvar_33, vzero_33, vsl_48, vkn_48, vvar_48, vzero_48]; try simp (disch := omega) only [wrap64])
    | (with_reducible refine hK' _ ?_; clear hK' K')
    | (with_reducible refine hK _ ?_; clear hK K)
    | (with_reducible refine vcC_pure (long44_ac _ _ hc0 hd0 _) ?_)
    | (with_reducible refine vCall_pure (long44_ac _ _ hc0 hd0 _) ?_)
    | ((with_reducible show vCall _ (AVal.fn 45 _) _ _ _); refine vCall_ex (at45_ac cs 40 7 (by omega) hu (by omega) (by omega) _) (fun m hm => ?_))
    | ((with_reducible show vCall _ (AVal.fn 45 _) _ _ _); refine vCall_ex (at45_ac cs 41 6 (by omega) hu (by omega) (by omega) _) (fun t ht => ?_))
    | ((with_reducible show vCall _ (AVal.fn 46 _) _ _ _); refine vCall_ex (row46z_ac cs _ (by omega) (by omega) hu _) (fun xs hxs => ?_))
    | ((with_reducible show vCall _ (AVal.fn 46 _) _ _ _); refine vCall_ex (row46z_ac ds _ (by omega) (by omega) hv _) (fun ys hys => ?_))
    | (with_reducible refine And.intro (And.intro rfl rfl) ?_)
    | (with_reducible refine And.intro (by omega) ?_)
    | (with_reducible refine And.intro (fun hg => ?_) (fun hg => ?_) <;> first | simp only [eq_false hg, decide_true, decide_false, and_true, true_and, and_false, false_and, not_true_eq_false, not_false_eq_true] | simp only [eq_true hg, decide_true, decide_false, and_true, true_and, and_false, false_and, not_true_eq_false, not_false_eq_true] | simp only [hg, decide_true, decide_false, and_true, true_and, and_false, false_and, not_true_eq_false, not_false_eq_true])
    | (with_reducible refine And.intro rfl (And.intro rfl rfl))
    | (with_reducible refine thenQ_n ?_)
    | (with_reducible refine thenQ_exit ?_)
    | (with_reducible refine thenQ_ret ?_)
    | (with_reducible refine midQ_ret ?_)
    | (with_reducible refine midQ_exit ?_)
    | (with_reducible refine blockQ_same ?_)
    | (with_reducible refine blockQ_ret ?_)
    | (with_reducible refine blockQ_n ?_)
    | (with_reducible refine AW.exit ?_)
    | (with_reducible refine AW.block ?_)
    | (with_reducible refine AW.cond_t rfl ?_)
    | (with_reducible refine AW.cond_f rfl ?_)
    | (with_reducible refine AW.cond_dec rfl (fun hc => ?_) (fun hc => ?_))
    | (with_reducible refine AW.cond rfl (fun hc => ?_) (fun hc => ?_) <;> try simp only [Bool.not_eq_eq_eq_not, Bool.not_true, Bool.not_false, decide_eq_true_eq, decide_eq_false_iff_not] at hc)
    | (with_reducible refine AW.seq ?_)
    | (with_reducible refine AW.skip ?_)
    | (with_reducible refine AW.ret ?_)
    | (with_reducible refine And.intro ?_ ?_)
    | (with_reducible intro hg; first | simp only [eq_false hg, decide_true, decide_false, and_true, true_and, and_false, false_and, not_true_eq_false, not_false_eq_true] | simp only [eq_true hg, decide_true, decide_false, and_true, true_and, and_false, false_and, not_true_eq_false, not_false_eq_true])
    | (with_reducible refine retQ_drop ?_; simp only [vRes, packRes, vLoad, vPart, lk, cond, Nat.reduceBEq, get_loc, getD_zero, getD_succ, true_and, List.length_cons, List.length_nil, Nat.reduceAdd, Nat.reduceLT, Nat.reduceLeDiff, List.take_succ_cons, List.take_zero, List.drop_succ_cons, List.drop_zero, vvar_2, vzero_2, vknd_2, vsn_2, vvar_4, vzero_4, vknd_4, vsn_4, vsl_33, vkn_33, vvar_33, vzero_33, vsl_48, vkn_48, vvar_48, vzero_48])
    )
  · exact ⟨_, _, FinOk.drop hB (.v _), rfl⟩
  have hr : RiverOk xs ys := ⟨by omega, by omega, hxs.2, hys.2⟩
  obtain ⟨t, rfl⟩ := Int.eq_ofNat_of_zero_le ht.1
  obtain ⟨_, _, _, _, hx, hy⟩ := hr.small (t := 0) (by omega) (s := 0) (by omega)
  obtain ⟨hb1, hb2, hb3⟩ := bestF_spec xs ys
  have hbl := best_le_least hr
  have hbi := best_iff hr t
  have hbb := rangeF_bnd xs ys (bestF xs ys)
  have c54 : ∀ H, AC Try.prog 54 [.rd (.int .i64) (xs), .rd (.int .i64) (ys)] H (fun r H' => r = .tup [.v (.int .i64 (max (rangeF xs ys (bestF xs ys)).1 (min (rangeF xs ys (bestF xs ys)).2 0))), .v (.int .i64 ((bestF xs ys : Int))), .v (.bool (true))] ∧ H' = H) := fun H => by
    have := impl54_ac xs ys (by omega) (by omega) H
    rwa [show bestR xs ys = _ from if_pos hr] at this
  have c50 : ∀ H, AC Try.prog 50 [.rd (.int .i64) (xs), .rd (.int .i64) (ys)] H (fun r H' => r = .tup [.v (.int .i64 ((leastF xs ys : Int))), .v (.bool (true))] ∧ H' = H) := fun H => by
    have := impl50_ac xs ys (by omega) (by omega) H
    rwa [show leastR xs ys = _ from if_pos hr] at this
  have c52b : ∀ H, AC Try.prog 52 [.rd (.int .i64) (xs), .rd (.int .i64) (ys), .v (.int .i64 ((bestF xs ys : Int)))] H (fun r H' => r = .tup [.v (.int .i64 ((rangeF xs ys (bestF xs ys)).1)), .v (.int .i64 ((rangeF xs ys (bestF xs ys)).2)), .v (.bool (true))] ∧ H' = H) := fun H => by
    have := impl52_ac xs ys (bestF xs ys : Int) (by omega) (by omega) H
    rwa [show shiftR xs ys (bestF xs ys : Int) = _ from if_pos ⟨⟨hr, by omega, by have := hr.1; omega⟩, by rw [Int.toNat_natCast]; omega⟩, Int.toNat_natCast] at this
  by_cases hbt : bestF xs ys ≤ t
  · have hrt := hbi.2 hbt
    have hbd := rangeF_bnd xs ys t
    have c52 : ∀ H, AC Try.prog 52 [.rd (.int .i64) (xs), .rd (.int .i64) (ys), .v (.int .i64 ((t : Int)))] H (fun r H' => r = .tup [.v (.int .i64 ((rangeF xs ys t).1)), .v (.int .i64 ((rangeF xs ys t).2)), .v (.bool (true))] ∧ H' = H) := fun H => by
      have := impl52_ac xs ys (t : Int) (by omega) (by omega) H
      rwa [show shiftR xs ys (t : Int) = _ from if_pos ⟨⟨hr, by omega, by omega⟩, by rw [Int.toNat_natCast]; omega⟩, Int.toNat_natCast] at this
    have key : ∀ s : Int, -200 ≤ s ∧ s ≤ 200 → (((rangeF xs ys t).1 ≤ s ∧ s ≤ (rangeF xs ys t).2) ↔ ∀ j, j + t < xs.length → FitAt xs ys t s j) := fun s hs => rangeF_iff hs
    generalize hL : (rangeF xs ys t).1 = lo at *
    generalize hU : (rangeF xs ys t).2 = hi at *
    generalize hL2 : (rangeF xs ys (bestF xs ys)).1 = lo2 at *
    generalize hU2 : (rangeF xs ys (bestF xs ys)).2 = hi2 at *
    generalize hBF : (bestF xs ys) = bf at *
    generalize hLF : (leastF xs ys) = lf at *
    repeat' (first
      | (with_reducible refine AW.sreg envOk fun K hK => ?_)
      | (with_reducible refine AW.region envOk fun K hK => ?_)
      | (with_reducible refine AW.d0reg envOk mixed ?_ ?_ fun K hK => ?_; (first | rfl | exact base_len | exact base_len0); kernel_rfl)
      | (with_reducible refine AW.d0 envOk mixed ?_ ?_ fun K hK => ?_; (first | rfl | exact base_len | exact base_len0); kernel_rfl)
      | (with_reducible refine vcD_nil ?_)
      | (with_reducible refine vcD_cons fun K' hK' => ?_; simp only [vAppend, elems, ↓reduceDIte, List.take_length, Nat.le_refl, List.drop_zero, vGuard, undef, Bool.not_eq_eq_eq_not, dstOk, vcOp, vcF, isPure, putS, vcCall, St.ev, St.put, lk, AVal.ofVal, initS, Nat.reduceLT, true_and, and_true, vBin, vUn, vPick, vConv, vPart, vLoad, vStore, vIdxA, vIdx, vFldA, vExt, vLen, vMin, vNil, vAlloc, vBox, vBuild, vBuildSl, vMake, vSlice, bnd, partsA, fillA, decAll, AVal.flat, AVal.cell, cellsOk, setRange, ETy.enc, ETy.dec, ETy.sz, ETy.d, cond, Nat.reduceBEq, Nat.reduceAdd, Int.toNat_natCast, List.length_set, List.length_append, List.length_replicate, List.length_take, Nat.reduceSub, Nat.reduceEqDiff, get_loc, setBox_loc, next_eq, List.length_cons, List.length_nil, List.map_cons, List.map_nil, List.append_nil, List.nil_append, List.cons_append, List.set_cons_zero, List.set_cons_succ, getD_zero, getD_succ, List.getElem?_cons_succ, List.getElem?_cons_zero, List.take_succ_cons, List.take_zero, List.drop_succ_cons, List.drop_zero, List.all_cons, List.all_nil, Bool.and_true, Bool.true_and, Option.bind_some, Option.map_some, Option.map_none, decide_eq_true_eq, decide_eq_false_iff_not, ne_eq, Bool.not_eq_true, Bool.not_eq_false, Decidable.not_not, not_true_eq_false, not_false_eq_true, forall_const, false_implies, Bool.true_eq_false, Bool.false_eq_true, reduceCtorEq, decide_true, decide_false, Bool.not_true, Bool.not_false, if_true, if_false, Nat.zero_add, Nat.lt_irrefl, Value.oneCell', gt_iff_lt, Nat.reduceLeDiff, Nat.lt_add_one, List.length_append, vvar_2, vzero_2, vknd_2, vsn_2, vvar_4, vzero_4, vknd_4, vsn_4, vsl_33, vkn_33, vvar_33, vzero_33, vsl_48, vkn_48, vvar_48, vzero_48, true_eq_decide_iff, false_eq_decide_iff]; try simp (disch := omega) only [wrap64])
      | (with_reducible refine vcL_nil ?_)
      | (with_reducible refine vcL_cons fun K' hK' => ?_; simp only [vAppend, elems, ↓reduceDIte, List.take_length, Nat.le_refl, List.drop_zero, vGuard, undef, Bool.not_eq_eq_eq_not, dstOk, vcOp, vcF, isPure, putS, vcCall, St.ev, St.put, lk, AVal.ofVal, initS, Nat.reduceLT, true_and, and_true, vBin, vUn, vPick, vConv, vPart, vLoad, vStore, vIdxA, vIdx, vFldA, vExt, vLen, vMin, vNil, vAlloc, vBox, vBuild, vBuildSl, vMake, vSlice, bnd, partsA, fillA, decAll, AVal.flat, AVal.cell, cellsOk, setRange, ETy.enc, ETy.dec, ETy.sz, ETy.d, cond, Nat.reduceBEq, Nat.reduceAdd, Int.toNat_natCast, List.length_set, List.length_append, List.length_replicate, List.length_take, Nat.reduceSub, Nat.reduceEqDiff, get_loc, setBox_loc, next_eq, List.length_cons, List.length_nil, List.map_cons, List.map_nil, List.append_nil, List.nil_append, List.cons_append, List.set_cons_zero, List.set_cons_succ, getD_zero, getD_succ, List.getElem?_cons_succ, List.getElem?_cons_zero, List.take_succ_cons, List.take_zero, List.drop_succ_cons, List.drop_zero, List.all_cons, List.all_nil, Bool.and_true, Bool.true_and, Option.bind_some, Option.map_some, Option.map_none, decide_eq_true_eq, decide_eq_false_iff_not, ne_eq, Bool.not_eq_true, Bool.not_eq_false, Decidable.not_not, not_true_eq_false, not_false_eq_true, forall_const, false_implies, Bool.true_eq_false, Bool.false_eq_true, reduceCtorEq, decide_true, decide_false, Bool.not_true, Bool.not_false, if_true, if_false, Nat.zero_add, Nat.lt_irrefl, Value.oneCell', gt_iff_lt, Nat.reduceLeDiff, Nat.lt_add_one, List.length_append, vvar_2, vzero_2, vknd_2, vsn_2, vvar_4, vzero_4, vknd_4, vsn_4, vsl_33, vkn_33, vvar_33, vzero_33, vsl_48, vkn_48, vvar_48, vzero_48, true_eq_decide_iff, false_eq_decide_iff]; try simp (disch := omega) only [wrap64])
      | (with_reducible refine hK' _ ?_; clear hK' K')
      | (with_reducible refine hK _ ?_; clear hK K)
      | (with_reducible refine vcC_pure (c54 _) ?_)
      | (with_reducible refine vCall_pure (c54 _) ?_)
      | (with_reducible refine vcC_pure (c50 _) ?_)
      | (with_reducible refine vCall_pure (c50 _) ?_)
      | (with_reducible refine vcC_pure (c52 _) ?_)
      | (with_reducible refine vCall_pure (c52 _) ?_)
      | (with_reducible refine vcC_pure (c52b _) ?_)
      | (with_reducible refine vCall_pure (c52b _) ?_)
      | (with_reducible refine And.intro (And.intro rfl rfl) ?_)
      | (with_reducible refine And.intro (by omega) ?_)
      | (with_reducible refine And.intro (fun hg => ?_) (fun hg => ?_) <;> first | simp only [eq_false hg, decide_true, decide_false, and_true, true_and, and_false, false_and, not_true_eq_false, not_false_eq_true] | simp only [eq_true hg, decide_true, decide_false, and_true, true_and, and_false, false_and, not_true_eq_false, not_false_eq_true] | simp only [hg, decide_true, decide_false, and_true, true_and, and_false, false_and, not_true_eq_false, not_false_eq_true])
      | (with_reducible refine And.intro rfl (And.intro rfl rfl))
      | (with_reducible refine thenQ_n ?_)
      | (with_reducible refine thenQ_exit ?_)
      | (with_reducible refine thenQ_ret ?_)
      | (with_reducible refine midQ_ret ?_)
      | (with_reducible refine midQ_exit ?_)
      | (with_reducible refine blockQ_same ?_)
      | (with_reducible refine blockQ_ret ?_)
      | (with_reducible refine blockQ_n ?_)
      | (with_reducible refine AW.exit ?_)
      | (with_reducible refine AW.block ?_)
      | (with_reducible refine AW.cond_t rfl ?_)
      | (with_reducible refine AW.cond_f rfl ?_)
      | (with_reducible refine AW.cond_dec rfl (fun hc => ?_) (fun hc => ?_))
      | (with_reducible refine AW.cond rfl (fun hc => ?_) (fun hc => ?_) <;> try simp only [Bool.not_eq_eq_eq_not, Bool.not_true, Bool.not_false, decide_eq_true_eq, decide_eq_false_iff_not] at hc)
      | (with_reducible refine AW.seq ?_)
      | (with_reducible refine AW.skip ?_)
      | (with_reducible refine AW.ret ?_)
      | (with_reducible refine And.intro ?_ ?_)
      | (with_reducible intro hg; first | simp only [eq_false hg, decide_true, decide_false, and_true, true_and, and_false, false_and, not_true_eq_false, not_false_eq_true] | simp only [eq_true hg, decide_true, decide_false, and_true, true_and, and_false, false_and, not_true_eq_false, not_false_eq_true])
      | (with_reducible refine retQ_drop ?_; simp only [vRes, packRes, vLoad, vPart, lk, cond, Nat.reduceBEq, get_loc, getD_zero, getD_succ, true_and, List.length_cons, List.length_nil, Nat.reduceAdd, Nat.reduceLT, Nat.reduceLeDiff, List.take_succ_cons, List.take_zero, List.drop_succ_cons, List.drop_zero, vvar_2, vzero_2, vknd_2, vsn_2, vvar_4, vzero_4, vknd_4, vsn_4, vsl_33, vkn_33, vvar_33, vzero_33, vsl_48, vkn_48, vvar_48, vzero_48])
      )
    all_goals try (exfalso; omega)
    all_goals
      refine AW.loop (fun s : Int => (⟨196, [(5, .v (.int .i64 (1 + m))), (6, .rd (.int .i64) (xs)), (7, .rd (.int .i64) (ys)), (8, .v (.int .i64 ((t : Int)))), (9, .v (.int .i64 (lo))), (10, .v (.int .i64 (hi))), (20, .v (.int .i64 (s)))], H, []⟩ : St)) (fun s => lo - 1 ≤ s ∧ s ≤ hi + 2) (fun s => (hi + 2 - s).toNat) (lo - 1) ⟨by omega, by omega⟩ (Weak.slots (by repeat' first | exact trivial | exact ⟨rfl, trivial⟩ | refine ⟨rfl, ?_⟩)) ?_
      intro s hs
      repeat' (first
        | (with_reducible refine AW.sreg envOk fun K hK => ?_)
        | (with_reducible refine AW.region envOk fun K hK => ?_)
        | (with_reducible refine AW.d0reg envOk mixed ?_ ?_ fun K hK => ?_; (first | rfl | exact base_len | exact base_len0); kernel_rfl)
        | (with_reducible refine AW.d0 envOk mixed ?_ ?_ fun K hK => ?_; (first | rfl | exact base_len | exact base_len0); kernel_rfl)
        | (with_reducible refine vcD_nil ?_)
        | (with_reducible refine vcD_cons fun K' hK' => ?_; simp only [vAppend, elems, ↓reduceDIte, List.take_length, Nat.le_refl, List.drop_zero, vGuard, undef, Bool.not_eq_eq_eq_not, dstOk, vcOp, vcF, isPure, putS, vcCall, St.ev, St.put, lk, AVal.ofVal, initS, Nat.reduceLT, true_and, and_true, vBin, vUn, vPick, vConv, vPart, vLoad, vStore, vIdxA, vIdx, vFldA, vExt, vLen, vMin, vNil, vAlloc, vBox, vBuild, vBuildSl, vMake, vSlice, bnd, partsA, fillA, decAll, AVal.flat, AVal.cell, cellsOk, setRange, ETy.enc, ETy.dec, ETy.sz, ETy.d, cond, Nat.reduceBEq, Nat.reduceAdd, Int.toNat_natCast, List.length_set, List.length_append, List.length_replicate, List.length_take, Nat.reduceSub, Nat.reduceEqDiff, get_loc, setBox_loc, next_eq, List.length_cons, List.length_nil, List.map_cons, List.map_nil, List.append_nil, List.nil_append, List.cons_append, List.set_cons_zero, List.set_cons_succ, getD_zero, getD_succ, List.getElem?_cons_succ, List.getElem?_cons_zero, List.take_succ_cons, List.take_zero, List.drop_succ_cons, List.drop_zero, List.all_cons, List.all_nil, Bool.and_true, Bool.true_and, Option.bind_some, Option.map_some, Option.map_none, decide_eq_true_eq, decide_eq_false_iff_not, ne_eq, Bool.not_eq_true, Bool.not_eq_false, Decidable.not_not, not_true_eq_false, not_false_eq_true, forall_const, false_implies, Bool.true_eq_false, Bool.false_eq_true, reduceCtorEq, decide_true, decide_false, Bool.not_true, Bool.not_false, if_true, if_false, Nat.zero_add, Nat.lt_irrefl, Value.oneCell', gt_iff_lt, Nat.reduceLeDiff, Nat.lt_add_one, List.length_append, vvar_2, vzero_2, vknd_2, vsn_2, vvar_4, vzero_4, vknd_4, vsn_4, vsl_33, vkn_33, vvar_33, vzero_33, vsl_48, vkn_48, vvar_48, vzero_48]; try simp (disch := omega) only [wrap64])
        | (with_reducible refine vcL_nil ?_)
        | (with_reducible refine vcL_cons fun K' hK' => ?_; simp only [vAppend, elems, ↓reduceDIte, List.take_length, Nat.le_refl, List.drop_zero, vGuard, undef, Bool.not_eq_eq_eq_not, dstOk, vcOp, vcF, isPure, putS, vcCall, St.ev, St.put, lk, AVal.ofVal, initS, Nat.reduceLT, true_and, and_true, vBin, vUn, vPick, vConv, vPart, vLoad, vStore, vIdxA, vIdx, vFldA, vExt, vLen, vMin, vNil, vAlloc, vBox, vBuild, vBuildSl, vMake, vSlice, bnd, partsA, fillA, decAll, AVal.flat, AVal.cell, cellsOk, setRange, ETy.enc, ETy.dec, ETy.sz, ETy.d, cond, Nat.reduceBEq, Nat.reduceAdd, Int.toNat_natCast, List.length_set, List.length_append, List.length_replicate, List.length_take, Nat.reduceSub, Nat.reduceEqDiff, get_loc, setBox_loc, next_eq, List.length_cons, List.length_nil, List.map_cons, List.map_nil, List.append_nil, List.nil_append, List.cons_append, List.set_cons_zero, List.set_cons_succ, getD_zero, getD_succ, List.getElem?_cons_succ, List.getElem?_cons_zero, List.take_succ_cons, List.take_zero, List.drop_succ_cons, List.drop_zero, List.all_cons, List.all_nil, Bool.and_true, Bool.true_and, Option.bind_some, Option.map_some, Option.map_none, decide_eq_true_eq, decide_eq_false_iff_not, ne_eq, Bool.not_eq_true, Bool.not_eq_false, Decidable.not_not, not_true_eq_false, not_false_eq_true, forall_const, false_implies, Bool.true_eq_false, Bool.false_eq_true, reduceCtorEq, decide_true, decide_false, Bool.not_true, Bool.not_false, if_true, if_false, Nat.zero_add, Nat.lt_irrefl, Value.oneCell', gt_iff_lt, Nat.reduceLeDiff, Nat.lt_add_one, List.length_append, vvar_2, vzero_2, vknd_2, vsn_2, vvar_4, vzero_4, vknd_4, vsn_4, vsl_33, vkn_33, vvar_33, vzero_33, vsl_48, vkn_48, vvar_48, vzero_48]; try simp (disch := omega) only [wrap64])
        | (with_reducible refine hK' _ ?_; clear hK' K')
        | (with_reducible refine hK _ ?_; clear hK K)
        | (with_reducible refine And.intro (And.intro rfl rfl) ?_)
        | (with_reducible refine And.intro (by omega) ?_)
        | (with_reducible refine And.intro (fun hg => ?_) (fun hg => ?_) <;> first | simp only [eq_false hg, decide_true, decide_false, and_true, true_and, and_false, false_and, not_true_eq_false, not_false_eq_true] | simp only [eq_true hg, decide_true, decide_false, and_true, true_and, and_false, false_and, not_true_eq_false, not_false_eq_true] | simp only [hg, decide_true, decide_false, and_true, true_and, and_false, false_and, not_true_eq_false, not_false_eq_true])
        | (with_reducible refine And.intro rfl (And.intro rfl rfl))
        | (with_reducible refine thenQ_n ?_)
        | (with_reducible refine thenQ_exit ?_)
        | (with_reducible refine thenQ_ret ?_)
        | (with_reducible refine midQ_ret ?_)
        | (with_reducible refine midQ_exit ?_)
        | (with_reducible refine blockQ_same ?_)
        | (with_reducible refine blockQ_ret ?_)
        | (with_reducible refine blockQ_n ?_)
        | (with_reducible refine AW.exit ?_)
        | (with_reducible refine AW.block ?_)
        | (with_reducible refine AW.cond_t rfl ?_)
        | (with_reducible refine AW.cond_f rfl ?_)
        | (with_reducible refine AW.cond_dec rfl (fun hc => ?_) (fun hc => ?_))
        | (with_reducible refine AW.cond rfl (fun hc => ?_) (fun hc => ?_) <;> try simp only [Bool.not_eq_eq_eq_not, Bool.not_true, Bool.not_false, decide_eq_true_eq, decide_eq_false_iff_not] at hc)
        | (with_reducible refine AW.seq ?_)
        | (with_reducible refine AW.skip ?_)
        | (with_reducible refine AW.ret ?_)
        | (with_reducible refine And.intro ?_ ?_)
        | (with_reducible intro hg; first | simp only [eq_false hg, decide_true, decide_false, and_true, true_and, and_false, false_and, not_true_eq_false, not_false_eq_true] | simp only [eq_true hg, decide_true, decide_false, and_true, true_and, and_false, false_and, not_true_eq_false, not_false_eq_true])
        | (with_reducible refine retQ_drop ?_; simp only [vRes, packRes, vLoad, vPart, lk, cond, Nat.reduceBEq, get_loc, getD_zero, getD_succ, true_and, List.length_cons, List.length_nil, Nat.reduceAdd, Nat.reduceLT, Nat.reduceLeDiff, List.take_succ_cons, List.take_zero, List.drop_succ_cons, List.drop_zero, vvar_2, vzero_2, vknd_2, vsn_2, vvar_4, vzero_4, vknd_4, vsn_4, vsl_33, vkn_33, vvar_33, vzero_33, vsl_48, vkn_48, vvar_48, vzero_48])
        )
      all_goals first
        | exact ⟨_, _, FinOk.drop hB (.v _), rfl⟩
        | (refine ⟨s + 1, ⟨by omega, by omega⟩, by omega, (Weak.slots (by repeat' first | exact trivial | exact ⟨rfl, trivial⟩ | refine ⟨rfl, ?_⟩))⟩)
        | skip
      all_goals
        have hsb : -200 ≤ s ∧ s ≤ 200 := by omega
        have hks := key s hsb
        refine AW.loop (fun z : Bool × Nat => (⟨196, [(5, .v (.int .i64 (1 + m))), (6, .rd (.int .i64) (xs)), (7, .rd (.int .i64) (ys)), (8, .v (.int .i64 ((t : Int)))), (9, .v (.int .i64 (lo))), (10, .v (.int .i64 (hi))), (20, .v (.int .i64 (s))), (21, .v (.bool (z.1))), (22, .v (.int .i64 ((z.2 : Int))))], H, []⟩ : St)) (fun z => (z.2 = 0 ∨ z.2 + t ≤ xs.length) ∧ (z.1 = true ↔ ∀ j, j < z.2 → FitAt xs ys t s j)) (fun z => xs.length + 1 - z.2) (true, 0) ⟨.inl rfl, ⟨fun _ j h => absurd h (by simp only; omega), fun _ => rfl⟩⟩ (Weak.slots (by repeat' first | exact trivial | exact ⟨rfl, trivial⟩ | refine ⟨rfl, ?_⟩)) ?_
        intro ⟨b, i⟩ ⟨hi0, hb⟩
        simp only at hi0 hb ⊢
        have x1 := hx i; have x2 := hx (i + t); have y1 := hy i; have y2 := hy (i + t)
        have hk : ¬ i + t < xs.length → (b = true ↔ lo ≤ s ∧ s ≤ hi) := fun h => by
          rw [hb, hks]
          exact ⟨fun h2 j hj => h2 j (by omega), fun h2 j hj => h2 j (by omega)⟩
        cases b with
        | false =>
          have hk' : ¬ i + t < xs.length → ¬ (lo ≤ s ∧ s ≤ hi) := fun h h2 => by cases (hk h).2 h2
          repeat' (first
            | (with_reducible refine AW.sreg envOk fun K hK => ?_)
            | (with_reducible refine AW.region envOk fun K hK => ?_)
            | (with_reducible refine AW.d0reg envOk mixed ?_ ?_ fun K hK => ?_; (first | rfl | exact base_len | exact base_len0); kernel_rfl)
            | (with_reducible refine AW.d0 envOk mixed ?_ ?_ fun K hK => ?_; (first | rfl | exact base_len | exact base_len0); kernel_rfl)
            | (with_reducible refine vcD_nil ?_)
            | (with_reducible refine vcD_cons fun K' hK' => ?_; simp only [vAppend, elems, ↓reduceDIte, List.take_length, Nat.le_refl, List.drop_zero, vGuard, undef, Bool.not_eq_eq_eq_not, dstOk, vcOp, vcF, isPure, putS, vcCall, St.ev, St.put, lk, AVal.ofVal, initS, Nat.reduceLT, true_and, and_true, vBin, vUn, vPick, vConv, vPart, vLoad, vStore, vIdxA, vIdx, vFldA, vExt, vLen, vMin, vNil, vAlloc, vBox, vBuild, vBuildSl, vMake, vSlice, bnd, partsA, fillA, decAll, AVal.flat, AVal.cell, cellsOk, setRange, ETy.enc, ETy.dec, ETy.sz, ETy.d, cond, Nat.reduceBEq, Nat.reduceAdd, Int.toNat_natCast, List.length_set, List.length_append, List.length_replicate, List.length_take, Nat.reduceSub, Nat.reduceEqDiff, get_loc, setBox_loc, next_eq, List.length_cons, List.length_nil, List.map_cons, List.map_nil, List.append_nil, List.nil_append, List.cons_append, List.set_cons_zero, List.set_cons_succ, getD_zero, getD_succ, List.getElem?_cons_succ, List.getElem?_cons_zero, List.take_succ_cons, List.take_zero, List.drop_succ_cons, List.drop_zero, List.all_cons, List.all_nil, Bool.and_true, Bool.true_and, Option.bind_some, Option.map_some, Option.map_none, decide_eq_true_eq, decide_eq_false_iff_not, ne_eq, Bool.not_eq_true, Bool.not_eq_false, Decidable.not_not, not_true_eq_false, not_false_eq_true, forall_const, false_implies, Bool.true_eq_false, Bool.false_eq_true, reduceCtorEq, decide_true, decide_false, Bool.not_true, Bool.not_false, if_true, if_false, Nat.zero_add, Nat.lt_irrefl, Value.oneCell', gt_iff_lt, Nat.reduceLeDiff, Nat.lt_add_one, List.length_append, vvar_2, vzero_2, vknd_2, vsn_2, vvar_4, vzero_4, vknd_4, vsn_4, vsl_33, vkn_33, vvar_33, vzero_33, vsl_48, vkn_48, vvar_48, vzero_48, toNat_add, true_eq_decide_iff, false_eq_decide_iff]; try simp (disch := omega) only [wrap64])
            | (with_reducible refine vcL_nil ?_)
            | (with_reducible refine vcL_cons fun K' hK' => ?_; simp only [vAppend, elems, ↓reduceDIte, List.take_length, Nat.le_refl, List.drop_zero, vGuard, undef, Bool.not_eq_eq_eq_not, dstOk, vcOp, vcF, isPure, putS, vcCall, St.ev, St.put, lk, AVal.ofVal, initS, Nat.reduceLT, true_and, and_true, vBin, vUn, vPick, vConv, vPart, vLoad, vStore, vIdxA, vIdx, vFldA, vExt, vLen, vMin, vNil, vAlloc, vBox, vBuild, vBuildSl, vMake, vSlice, bnd, partsA, fillA, decAll, AVal.flat, AVal.cell, cellsOk, setRange, ETy.enc, ETy.dec, ETy.sz, ETy.d, cond, Nat.reduceBEq, Nat.reduceAdd, Int.toNat_natCast, List.length_set, List.length_append, List.length_replicate, List.length_take, Nat.reduceSub, Nat.reduceEqDiff, get_loc, setBox_loc, next_eq, List.length_cons, List.length_nil, List.map_cons, List.map_nil, List.append_nil, List.nil_append, List.cons_append, List.set_cons_zero, List.set_cons_succ, getD_zero, getD_succ, List.getElem?_cons_succ, List.getElem?_cons_zero, List.take_succ_cons, List.take_zero, List.drop_succ_cons, List.drop_zero, List.all_cons, List.all_nil, Bool.and_true, Bool.true_and, Option.bind_some, Option.map_some, Option.map_none, decide_eq_true_eq, decide_eq_false_iff_not, ne_eq, Bool.not_eq_true, Bool.not_eq_false, Decidable.not_not, not_true_eq_false, not_false_eq_true, forall_const, false_implies, Bool.true_eq_false, Bool.false_eq_true, reduceCtorEq, decide_true, decide_false, Bool.not_true, Bool.not_false, if_true, if_false, Nat.zero_add, Nat.lt_irrefl, Value.oneCell', gt_iff_lt, Nat.reduceLeDiff, Nat.lt_add_one, List.length_append, vvar_2, vzero_2, vknd_2, vsn_2, vvar_4, vzero_4, vknd_4, vsn_4, vsl_33, vkn_33, vvar_33, vzero_33, vsl_48, vkn_48, vvar_48, vzero_48, toNat_add, true_eq_decide_iff, false_eq_decide_iff]; try simp (disch := omega) only [wrap64])
            | (with_reducible refine hK' _ ?_; clear hK' K')
            | (with_reducible refine hK _ ?_; clear hK K)
            | (with_reducible refine And.intro (And.intro rfl rfl) ?_)
            | (with_reducible refine And.intro (by omega) ?_)
            | (with_reducible refine And.intro (fun hg => ?_) (fun hg => ?_) <;> first | simp only [eq_false hg, decide_true, decide_false, and_true, true_and, and_false, false_and, not_true_eq_false, not_false_eq_true] | simp only [eq_true hg, decide_true, decide_false, and_true, true_and, and_false, false_and, not_true_eq_false, not_false_eq_true] | simp only [hg, decide_true, decide_false, and_true, true_and, and_false, false_and, not_true_eq_false, not_false_eq_true])
            | (with_reducible refine And.intro rfl (And.intro rfl rfl))
            | (with_reducible refine thenQ_n ?_)
            | (with_reducible refine thenQ_exit ?_)
            | (with_reducible refine thenQ_ret ?_)
            | (with_reducible refine midQ_ret ?_)
            | (with_reducible refine midQ_exit ?_)
            | (with_reducible refine blockQ_same ?_)
            | (with_reducible refine blockQ_ret ?_)
            | (with_reducible refine blockQ_n ?_)
            | (with_reducible refine AW.exit ?_)
            | (with_reducible refine AW.block ?_)
            | (with_reducible refine AW.cond_t rfl ?_)
            | (with_reducible refine AW.cond_f rfl ?_)
            | (with_reducible refine AW.cond_dec rfl (fun hc => ?_) (fun hc => ?_))
            | (with_reducible refine AW.cond rfl (fun hc => ?_) (fun hc => ?_) <;> try simp only [Bool.not_eq_eq_eq_not, Bool.not_true, Bool.not_false, decide_eq_true_eq, decide_eq_false_iff_not] at hc)
            | (with_reducible refine AW.seq ?_)
            | (with_reducible refine AW.skip ?_)
            | (with_reducible refine AW.ret ?_)
            | (with_reducible refine And.intro ?_ ?_)
            | (with_reducible intro hg; first | simp only [eq_false hg, decide_true, decide_false, and_true, true_and, and_false, false_and, not_true_eq_false, not_false_eq_true] | simp only [eq_true hg, decide_true, decide_false, and_true, true_and, and_false, false_and, not_true_eq_false, not_false_eq_true])
            | (with_reducible refine retQ_drop ?_; simp only [vRes, packRes, vLoad, vPart, lk, cond, Nat.reduceBEq, get_loc, getD_zero, getD_succ, true_and, List.length_cons, List.length_nil, Nat.reduceAdd, Nat.reduceLT, Nat.reduceLeDiff, List.take_succ_cons, List.take_zero, List.drop_succ_cons, List.drop_zero, vvar_2, vzero_2, vknd_2, vsn_2, vvar_4, vzero_4, vknd_4, vsn_4, vsl_33, vkn_33, vvar_33, vzero_33, vsl_48, vkn_48, vvar_48, vzero_48])
            )
          all_goals first
            | (exfalso; omega)
            | exact ⟨(false, i + 1), ⟨.inr (by simp only; omega), ⟨fun h => (by cases h), fun h => hb.2 (fun j hj => h j (by simp only; omega))⟩⟩, by simp only; omega, (Weak.slots (by repeat' first | exact trivial | exact ⟨rfl, trivial⟩ | refine ⟨rfl, ?_⟩))⟩
            | exact ⟨s + 1, ⟨by omega, by omega⟩, by omega, (Weak.slots (by repeat' first | exact trivial | exact ⟨rfl, trivial⟩ | refine ⟨rfl, ?_⟩))⟩
        | true =>
          have hk' : ¬ i + t < xs.length → (lo ≤ s ∧ s ≤ hi) := fun h => (hk h).1 rfl
          repeat' (first
            | (with_reducible refine AW.sreg envOk fun K hK => ?_)
            | (with_reducible refine AW.region envOk fun K hK => ?_)
            | (with_reducible refine AW.d0reg envOk mixed ?_ ?_ fun K hK => ?_; (first | rfl | exact base_len | exact base_len0); kernel_rfl)
            | (with_reducible refine AW.d0 envOk mixed ?_ ?_ fun K hK => ?_; (first | rfl | exact base_len | exact base_len0); kernel_rfl)
            | (with_reducible refine vcD_nil ?_)
            | (with_reducible refine vcD_cons fun K' hK' => ?_; simp only [vAppend, elems, ↓reduceDIte, List.take_length, Nat.le_refl, List.drop_zero, vGuard, undef, Bool.not_eq_eq_eq_not, dstOk, vcOp, vcF, isPure, putS, vcCall, St.ev, St.put, lk, AVal.ofVal, initS, Nat.reduceLT, true_and, and_true, vBin, vUn, vPick, vConv, vPart, vLoad, vStore, vIdxA, vIdx, vFldA, vExt, vLen, vMin, vNil, vAlloc, vBox, vBuild, vBuildSl, vMake, vSlice, bnd, partsA, fillA, decAll, AVal.flat, AVal.cell, cellsOk, setRange, ETy.enc, ETy.dec, ETy.sz, ETy.d, cond, Nat.reduceBEq, Nat.reduceAdd, Int.toNat_natCast, List.length_set, List.length_append, List.length_replicate, List.length_take, Nat.reduceSub, Nat.reduceEqDiff, get_loc, setBox_loc, next_eq, List.length_cons, List.length_nil, List.map_cons, List.map_nil, List.append_nil, List.nil_append, List.cons_append, List.set_cons_zero, List.set_cons_succ, getD_zero, getD_succ, List.getElem?_cons_succ, List.getElem?_cons_zero, List.take_succ_cons, List.take_zero, List.drop_succ_cons, List.drop_zero, List.all_cons, List.all_nil, Bool.and_true, Bool.true_and, Option.bind_some, Option.map_some, Option.map_none, decide_eq_true_eq, decide_eq_false_iff_not, ne_eq, Bool.not_eq_true, Bool.not_eq_false, Decidable.not_not, not_true_eq_false, not_false_eq_true, forall_const, false_implies, Bool.true_eq_false, Bool.false_eq_true, reduceCtorEq, decide_true, decide_false, Bool.not_true, Bool.not_false, if_true, if_false, Nat.zero_add, Nat.lt_irrefl, Value.oneCell', gt_iff_lt, Nat.reduceLeDiff, Nat.lt_add_one, List.length_append, vvar_2, vzero_2, vknd_2, vsn_2, vvar_4, vzero_4, vknd_4, vsn_4, vsl_33, vkn_33, vvar_33, vzero_33, vsl_48, vkn_48, vvar_48, vzero_48, toNat_add, true_eq_decide_iff, false_eq_decide_iff]; try simp (disch := omega) only [wrap64])
            | (with_reducible refine vcL_nil ?_)
            | (with_reducible refine vcL_cons fun K' hK' => ?_; simp only [vAppend, elems, ↓reduceDIte, List.take_length, Nat.le_refl, List.drop_zero, vGuard, undef, Bool.not_eq_eq_eq_not, dstOk, vcOp, vcF, isPure, putS, vcCall, St.ev, St.put, lk, AVal.ofVal, initS, Nat.reduceLT, true_and, and_true, vBin, vUn, vPick, vConv, vPart, vLoad, vStore, vIdxA, vIdx, vFldA, vExt, vLen, vMin, vNil, vAlloc, vBox, vBuild, vBuildSl, vMake, vSlice, bnd, partsA, fillA, decAll, AVal.flat, AVal.cell, cellsOk, setRange, ETy.enc, ETy.dec, ETy.sz, ETy.d, cond, Nat.reduceBEq, Nat.reduceAdd, Int.toNat_natCast, List.length_set, List.length_append, List.length_replicate, List.length_take, Nat.reduceSub, Nat.reduceEqDiff, get_loc, setBox_loc, next_eq, List.length_cons, List.length_nil, List.map_cons, List.map_nil, List.append_nil, List.nil_append, List.cons_append, List.set_cons_zero, List.set_cons_succ, getD_zero, getD_succ, List.getElem?_cons_succ, List.getElem?_cons_zero, List.take_succ_cons, List.take_zero, List.drop_succ_cons, List.drop_zero, List.all_cons, List.all_nil, Bool.and_true, Bool.true_and, Option.bind_some, Option.map_some, Option.map_none, decide_eq_true_eq, decide_eq_false_iff_not, ne_eq, Bool.not_eq_true, Bool.not_eq_false, Decidable.not_not, not_true_eq_false, not_false_eq_true, forall_const, false_implies, Bool.true_eq_false, Bool.false_eq_true, reduceCtorEq, decide_true, decide_false, Bool.not_true, Bool.not_false, if_true, if_false, Nat.zero_add, Nat.lt_irrefl, Value.oneCell', gt_iff_lt, Nat.reduceLeDiff, Nat.lt_add_one, List.length_append, vvar_2, vzero_2, vknd_2, vsn_2, vvar_4, vzero_4, vknd_4, vsn_4, vsl_33, vkn_33, vvar_33, vzero_33, vsl_48, vkn_48, vvar_48, vzero_48, toNat_add, true_eq_decide_iff, false_eq_decide_iff]; try simp (disch := omega) only [wrap64])
            | (with_reducible refine hK' _ ?_; clear hK' K')
            | (with_reducible refine hK _ ?_; clear hK K)
            | (with_reducible refine And.intro (And.intro rfl rfl) ?_)
            | (with_reducible refine And.intro (by omega) ?_)
            | (with_reducible refine And.intro (fun hg => ?_) (fun hg => ?_) <;> first | simp only [eq_false hg, decide_true, decide_false, and_true, true_and, and_false, false_and, not_true_eq_false, not_false_eq_true] | simp only [eq_true hg, decide_true, decide_false, and_true, true_and, and_false, false_and, not_true_eq_false, not_false_eq_true] | simp only [hg, decide_true, decide_false, and_true, true_and, and_false, false_and, not_true_eq_false, not_false_eq_true])
            | (with_reducible refine And.intro rfl (And.intro rfl rfl))
            | (with_reducible refine thenQ_n ?_)
            | (with_reducible refine thenQ_exit ?_)
            | (with_reducible refine thenQ_ret ?_)
            | (with_reducible refine midQ_ret ?_)
            | (with_reducible refine midQ_exit ?_)
            | (with_reducible refine blockQ_same ?_)
            | (with_reducible refine blockQ_ret ?_)
            | (with_reducible refine blockQ_n ?_)
            | (with_reducible refine AW.exit ?_)
            | (with_reducible refine AW.block ?_)
            | (with_reducible refine AW.cond_t rfl ?_)
            | (with_reducible refine AW.cond_f rfl ?_)
            | (with_reducible refine AW.cond_dec rfl (fun hc => ?_) (fun hc => ?_))
            | (with_reducible refine AW.cond rfl (fun hc => ?_) (fun hc => ?_) <;> try simp only [Bool.not_eq_eq_eq_not, Bool.not_true, Bool.not_false, decide_eq_true_eq, decide_eq_false_iff_not] at hc)
            | (with_reducible refine AW.seq ?_)
            | (with_reducible refine AW.skip ?_)
            | (with_reducible refine AW.ret ?_)
            | (with_reducible refine And.intro ?_ ?_)
            | (with_reducible intro hg; first | simp only [eq_false hg, decide_true, decide_false, and_true, true_and, and_false, false_and, not_true_eq_false, not_false_eq_true] | simp only [eq_true hg, decide_true, decide_false, and_true, true_and, and_false, false_and, not_true_eq_false, not_false_eq_true])
            | (with_reducible refine retQ_drop ?_; simp only [vRes, packRes, vLoad, vPart, lk, cond, Nat.reduceBEq, get_loc, getD_zero, getD_succ, true_and, List.length_cons, List.length_nil, Nat.reduceAdd, Nat.reduceLT, Nat.reduceLeDiff, List.take_succ_cons, List.take_zero, List.drop_succ_cons, List.drop_zero, vvar_2, vzero_2, vknd_2, vsn_2, vvar_4, vzero_4, vknd_4, vsn_4, vsl_33, vkn_33, vvar_33, vzero_33, vsl_48, vkn_48, vvar_48, vzero_48])
            )
          all_goals first
            | (exfalso; omega)
            | exact ⟨s + 1, ⟨by omega, by omega⟩, by omega, (Weak.slots (by repeat' first | exact trivial | exact ⟨rfl, trivial⟩ | refine ⟨rfl, ?_⟩))⟩
            | exact ⟨(decide ((t : Int) ≤ xs.getD (i + t) 0 + s - ys.getD i 0), i + 1), ⟨.inr (by simp only; omega), by rw [fit_succ, decide_eq_true_iff, FitAt_geq]; exact ⟨fun h => ⟨hb.1 rfl, by assumption, h⟩, fun h => h.2.2⟩⟩, by simp only; omega, (Weak.slots (by repeat' first | exact trivial | exact ⟨rfl, trivial⟩ | refine ⟨rfl, ?_⟩))⟩
            | exact ⟨(false, i + 1), ⟨.inr (by simp only; omega), ⟨fun h => (by cases h), fun h => absurd (FitAt_geq.1 (h i (by simp only; omega))).1 (by assumption)⟩⟩, by simp only; omega, (Weak.slots (by repeat' first | exact trivial | exact ⟨rfl, trivial⟩ | refine ⟨rfl, ?_⟩))⟩
  · have c52 : ∀ H, AC Try.prog 52 [.rd (.int .i64) (xs), .rd (.int .i64) (ys), .v (.int .i64 ((t : Int)))] H (fun r H' => r = .tup [.v (.int .i64 (0)), .v (.int .i64 (0)), .v (.bool (false))] ∧ H' = H) := fun H => by
      have := impl52_ac xs ys (t : Int) (by omega) (by omega) H
      have hne : ¬ (rangeF xs ys t).1 ≤ (rangeF xs ys t).2 := fun h => hbt (hbi.1 h)
      rwa [show shiftR xs ys (t : Int) = _ from if_neg (by rintro ⟨_, h⟩; rw [Int.toNat_natCast] at h; omega)] at this
    generalize hL2 : (rangeF xs ys (bestF xs ys)).1 = lo2 at *
    generalize hU2 : (rangeF xs ys (bestF xs ys)).2 = hi2 at *
    generalize hBF : (bestF xs ys) = bf at *
    generalize hLF : (leastF xs ys) = lf at *
    repeat' (first
      | (with_reducible refine AW.sreg envOk fun K hK => ?_)
      | (with_reducible refine AW.region envOk fun K hK => ?_)
      | (with_reducible refine AW.d0reg envOk mixed ?_ ?_ fun K hK => ?_; (first | rfl | exact base_len | exact base_len0); kernel_rfl)
      | (with_reducible refine AW.d0 envOk mixed ?_ ?_ fun K hK => ?_; (first | rfl | exact base_len | exact base_len0); kernel_rfl)
      | (with_reducible refine vcD_nil ?_)
      | (with_reducible refine vcD_cons fun K' hK' => ?_; simp only [vAppend, elems, ↓reduceDIte, List.take_length, Nat.le_refl, List.drop_zero, vGuard, undef, Bool.not_eq_eq_eq_not, dstOk, vcOp, vcF, isPure, putS, vcCall, St.ev, St.put, lk, AVal.ofVal, initS, Nat.reduceLT, true_and, and_true, vBin, vUn, vPick, vConv, vPart, vLoad, vStore, vIdxA, vIdx, vFldA, vExt, vLen, vMin, vNil, vAlloc, vBox, vBuild, vBuildSl, vMake, vSlice, bnd, partsA, fillA, decAll, AVal.flat, AVal.cell, cellsOk, setRange, ETy.enc, ETy.dec, ETy.sz, ETy.d, cond, Nat.reduceBEq, Nat.reduceAdd, Int.toNat_natCast, List.length_set, List.length_append, List.length_replicate, List.length_take, Nat.reduceSub, Nat.reduceEqDiff, get_loc, setBox_loc, next_eq, List.length_cons, List.length_nil, List.map_cons, List.map_nil, List.append_nil, List.nil_append, List.cons_append, List.set_cons_zero, List.set_cons_succ, getD_zero, getD_succ, List.getElem?_cons_succ, List.getElem?_cons_zero, List.take_succ_cons, List.take_zero, List.drop_succ_cons, List.drop_zero, List.all_cons, List.all_nil, Bool.and_true, Bool.true_and, Option.bind_some, Option.map_some, Option.map_none, decide_eq_true_eq, decide_eq_false_iff_not, ne_eq, Bool.not_eq_true, Bool.not_eq_false, Decidable.not_not, not_true_eq_false, not_false_eq_true, forall_const, false_implies, Bool.true_eq_false, Bool.false_eq_true, reduceCtorEq, decide_true, decide_false, Bool.not_true, Bool.not_false, if_true, if_false, Nat.zero_add, Nat.lt_irrefl, Value.oneCell', gt_iff_lt, Nat.reduceLeDiff, Nat.lt_add_one, List.length_append, vvar_2, vzero_2, vknd_2, vsn_2, vvar_4, vzero_4, vknd_4, vsn_4, vsl_33, vkn_33, vvar_33, vzero_33, vsl_48, vkn_48, vvar_48, vzero_48, true_eq_decide_iff, false_eq_decide_iff]; try simp (disch := omega) only [wrap64])
      | (with_reducible refine vcL_nil ?_)
      | (with_reducible refine vcL_cons fun K' hK' => ?_; simp only [vAppend, elems, ↓reduceDIte, List.take_length, Nat.le_refl, List.drop_zero, vGuard, undef, Bool.not_eq_eq_eq_not, dstOk, vcOp, vcF, isPure, putS, vcCall, St.ev, St.put, lk, AVal.ofVal, initS, Nat.reduceLT, true_and, and_true, vBin, vUn, vPick, vConv, vPart, vLoad, vStore, vIdxA, vIdx, vFldA, vExt, vLen, vMin, vNil, vAlloc, vBox, vBuild, vBuildSl, vMake, vSlice, bnd, partsA, fillA, decAll, AVal.flat, AVal.cell, cellsOk, setRange, ETy.enc, ETy.dec, ETy.sz, ETy.d, cond, Nat.reduceBEq, Nat.reduceAdd, Int.toNat_natCast, List.length_set, List.length_append, List.length_replicate, List.length_take, Nat.reduceSub, Nat.reduceEqDiff, get_loc, setBox_loc, next_eq, List.length_cons, List.length_nil, List.map_cons, List.map_nil, List.append_nil, List.nil_append, List.cons_append, List.set_cons_zero, List.set_cons_succ, getD_zero, getD_succ, List.getElem?_cons_succ, List.getElem?_cons_zero, List.take_succ_cons, List.take_zero, List.drop_succ_cons, List.drop_zero, List.all_cons, List.all_nil, Bool.and_true, Bool.true_and, Option.bind_some, Option.map_some, Option.map_none, decide_eq_true_eq, decide_eq_false_iff_not, ne_eq, Bool.not_eq_true, Bool.not_eq_false, Decidable.not_not, not_true_eq_false, not_false_eq_true, forall_const, false_implies, Bool.true_eq_false, Bool.false_eq_true, reduceCtorEq, decide_true, decide_false, Bool.not_true, Bool.not_false, if_true, if_false, Nat.zero_add, Nat.lt_irrefl, Value.oneCell', gt_iff_lt, Nat.reduceLeDiff, Nat.lt_add_one, List.length_append, vvar_2, vzero_2, vknd_2, vsn_2, vvar_4, vzero_4, vknd_4, vsn_4, vsl_33, vkn_33, vvar_33, vzero_33, vsl_48, vkn_48, vvar_48, vzero_48, true_eq_decide_iff, false_eq_decide_iff]; try simp (disch := omega) only [wrap64])
      | (with_reducible refine hK' _ ?_; clear hK' K')
      | (with_reducible refine hK _ ?_; clear hK K)
      | (with_reducible refine vcC_pure (c54 _) ?_)
      | (with_reducible refine vCall_pure (c54 _) ?_)
      | (with_reducible refine vcC_pure (c50 _) ?_)
      | (with_reducible refine vCall_pure (c50 _) ?_)
      | (with_reducible refine vcC_pure (c52 _) ?_)
      | (with_reducible refine vCall_pure (c52 _) ?_)
      | (with_reducible refine vcC_pure (c52b _) ?_)
      | (with_reducible refine vCall_pure (c52b _) ?_)
      | (with_reducible refine And.intro (And.intro rfl rfl) ?_)
      | (with_reducible refine And.intro (by omega) ?_)
      | (with_reducible refine And.intro (fun hg => ?_) (fun hg => ?_) <;> first | simp only [eq_false hg, decide_true, decide_false, and_true, true_and, and_false, false_and, not_true_eq_false, not_false_eq_true] | simp only [eq_true hg, decide_true, decide_false, and_true, true_and, and_false, false_and, not_true_eq_false, not_false_eq_true] | simp only [hg, decide_true, decide_false, and_true, true_and, and_false, false_and, not_true_eq_false, not_false_eq_true])
      | (with_reducible refine And.intro rfl (And.intro rfl rfl))
      | (with_reducible refine thenQ_n ?_)
      | (with_reducible refine thenQ_exit ?_)
      | (with_reducible refine thenQ_ret ?_)
      | (with_reducible refine midQ_ret ?_)
      | (with_reducible refine midQ_exit ?_)
      | (with_reducible refine blockQ_same ?_)
      | (with_reducible refine blockQ_ret ?_)
      | (with_reducible refine blockQ_n ?_)
      | (with_reducible refine AW.exit ?_)
      | (with_reducible refine AW.block ?_)
      | (with_reducible refine AW.cond_t rfl ?_)
      | (with_reducible refine AW.cond_f rfl ?_)
      | (with_reducible refine AW.cond_dec rfl (fun hc => ?_) (fun hc => ?_))
      | (with_reducible refine AW.cond rfl (fun hc => ?_) (fun hc => ?_) <;> try simp only [Bool.not_eq_eq_eq_not, Bool.not_true, Bool.not_false, decide_eq_true_eq, decide_eq_false_iff_not] at hc)
      | (with_reducible refine AW.seq ?_)
      | (with_reducible refine AW.skip ?_)
      | (with_reducible refine AW.ret ?_)
      | (with_reducible refine And.intro ?_ ?_)
      | (with_reducible intro hg; first | simp only [eq_false hg, decide_true, decide_false, and_true, true_and, and_false, false_and, not_true_eq_false, not_false_eq_true] | simp only [eq_true hg, decide_true, decide_false, and_true, true_and, and_false, false_and, not_true_eq_false, not_false_eq_true])
      | (with_reducible refine retQ_drop ?_; simp only [vRes, packRes, vLoad, vPart, lk, cond, Nat.reduceBEq, get_loc, getD_zero, getD_succ, true_and, List.length_cons, List.length_nil, Nat.reduceAdd, Nat.reduceLT, Nat.reduceLeDiff, List.take_succ_cons, List.take_zero, List.drop_succ_cons, List.drop_zero, vvar_2, vzero_2, vknd_2, vsn_2, vvar_4, vzero_4, vknd_4, vsn_4, vsl_33, vkn_33, vvar_33, vzero_33, vsl_48, vkn_48, vvar_48, vzero_48])
      )
    all_goals first
      | (exfalso; omega)
      | exact ⟨_, _, FinOk.drop hB (.v _), rfl⟩
end Go.Proofs.Ytlkamicaoljefaa

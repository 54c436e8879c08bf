/- Walks: is a routing right; the law. -/
import Derived.Test.YtdphlhplcmjepaaW15
set_option linter.unusedSimpArgs false
set_option linter.unusedVariables false
set_option maxHeartbeats 1000000
namespace Go.Proofs.Ytdphlhplcmjepaa
open Go.Eng

def RoutOk (c : Ch) (tr : Mz) : Prop := ChOk c ∧ Good (nets c) (Apart c) (Above c) tr
noncomputable instance (c : Ch) (tr : Mz) : Decidable (RoutOk c tr) := Classical.propDecidable _
theorem spec43_ac (c : Ch) (hx : c.1.length ≤ 2000000) (hy : c.2.length ≤ 2000000) (tr : Mz) (hf : Fits 1048576 tr) (H : List ABox) : AC Try.prog 43 [.agg [.rd (.int .i64) (c).1, .rd (.int .i64) (c).2], .rd (.sli .i64) (tr)] H (fun r H' => r = .v (.bool (decide (RoutOk c tr))) ∧ H' = H) := by
  have hn := nets_len c
  by_cases hok : ChOk c
  · have hd : decide (ChOk c) = true := decide_eq_true hok
    have hyy := hok.1.2.2
    refine AC.enter envOk Try.func43 rfl (by decide) Try.ntmps43 Try.results43 (by simp) fun hB => ?_
    repeat' (first
      | (with_reducible refine AW.sreg envOk fun K hK => ?_)
      | (with_reducible refine AW.region envOk fun K hK => ?_)
      | (with_reducible refine vcL_nil ?_)
      | (with_reducible refine vcL_cons fun K' hK' => ?_; simp only [vAppend, elems, ↓reduceDIte, List.take_length, Nat.le_refl, List.drop_zero, vGuard, undef, Bool.not_eq_eq_eq_not, dstOk, vcOp, vcF, isPure, putS, vcCall, St.ev, St.put, lk, AVal.ofVal, initS, Nat.reduceLT, true_and, and_true, vBin, vUn, vPick, vConv, vPart, vLoad, vStore, vIdxA, vIdx, vFldA, vExt, vLen, vMin, vNil, vAlloc, vBox, vBuild, vBuildSl, vMake, vSlice, bnd, partsA, fillA, decAll, AVal.flat, AVal.cell, cellsOk, setRange, ETy.enc, ETy.dec, ETy.sz, ETy.d, cond, Nat.reduceBEq, Nat.reduceAdd, Int.toNat_natCast, List.length_set, List.length_append, List.length_replicate, List.length_take, Nat.reduceSub, Nat.reduceEqDiff, get_loc, setBox_loc, next_eq, List.length_cons, List.length_nil, List.map_cons, List.map_nil, List.append_nil, List.nil_append, List.cons_append, List.set_cons_zero, List.set_cons_succ, getD_zero, getD_succ, List.getElem?_cons_succ, List.getElem?_cons_zero, List.take_succ_cons, List.take_zero, List.drop_succ_cons, List.drop_zero, List.all_cons, List.all_nil, Bool.and_true, Bool.true_and, Option.bind_some, Option.map_some, Option.map_none, decide_eq_true_eq, decide_eq_false_iff_not, ne_eq, Bool.not_eq_true, Bool.not_eq_false, Decidable.not_not, not_true_eq_false, not_false_eq_true, forall_const, false_implies, Bool.true_eq_false, Bool.false_eq_true, reduceCtorEq, decide_true, decide_false, Bool.not_true, Bool.not_false, if_true, if_false, Nat.zero_add, Nat.lt_irrefl, Value.oneCell', gt_iff_lt, Nat.reduceLeDiff, Nat.lt_add_one, List.length_append, vMakeMap, vLookup, vMapUpd, vMapEnt, vEntSt, vRange, vEntry, KK.of, KK.av, lkRes, entry_last, vvar_4, vzero_4, vknd_4, vsn_4, vvar_27, vzero_27, vbld_27, vsl_44, vkn_44, vvar_44, vzero_44, vvar_74, vzero_74, hd]; try simp (disch := omega) only [wrap64])
      | (with_reducible refine hK' _ ?_; clear hK' K')
      | (with_reducible refine hK _ ?_; clear hK K)
      | ((with_reducible show vCall _ (AVal.fn 49 _) _ _ _); refine vCall_pure (AC.lent0 (by (repeat' (first | exact trivial | exact LentV.rowL rfl rfl rfl | exact LentV.rowL rfl rfl (by assumption) | refine LentV.boxL rfl ?_ | exact LentV.nil _ | exact LentV.same _ | refine LentV.aggL ?_ | refine And.intro ?_ ?_)); (first | done | fail)) (by (repeat' (first | exact NoRd.v _ | exact NoRd.sl | exact NoRd.mp | exact NoRd.tup nord_nil | refine NoRd.tup ?_ | refine NoRd.agg ?_ | exact nord_nil | refine nord_cons ?_ ?_)); (first | done | fail)) (is49_ac c (by omega) (by omega) _)) ?_)
      | ((with_reducible show vcC _ 49 _ _ _); refine vcC_pure (AC.lent0 (by (repeat' (first | exact trivial | exact LentV.rowL rfl rfl rfl | exact LentV.rowL rfl rfl (by assumption) | refine LentV.boxL rfl ?_ | exact LentV.nil _ | exact LentV.same _ | refine LentV.aggL ?_ | refine And.intro ?_ ?_)); (first | done | fail)) (by (repeat' (first | exact NoRd.v _ | exact NoRd.sl | exact NoRd.mp | exact NoRd.tup nord_nil | refine NoRd.tup ?_ | refine NoRd.agg ?_ | exact nord_nil | refine nord_cons ?_ ?_)); (first | done | fail)) (is49_ac c (by omega) (by omega) _)) ?_)
      | ((with_reducible show vCall _ (AVal.fn 67 _) _ _ _); refine vCall_pure (of67_ac c hx hyy (by rw [app_get]; rfl)) ?_)
      | ((with_reducible show vcC _ 67 _ _ _); refine vcC_pure (of67_ac c hx hyy (by rw [app_get]; rfl)) ?_)
      | ((with_reducible show vCall _ (AVal.fn 73 _) _ _ _); refine vCall_pure (trk73_ac (nets c) (Apart c) (Above c) _ _ (relM_ok _ _) (relM_ok _ _) (nets_nodup c) (by omega) tr hf _) ?_)
      | ((with_reducible show vcC _ 73 _ _ _); refine vcC_pure (trk73_ac (nets c) (Apart c) (Above c) _ _ (relM_ok _ _) (relM_ok _ _) (nets_nodup c) (by omega) tr hf _) ?_)
      | (with_reducible refine And.intro (And.intro rfl rfl) ?_)
      | (with_reducible refine And.intro (by omega) ?_)
      | (with_reducible refine And.intro (fun hg => ?_) (fun hg => ?_) <;> first | simp only [eq_false hg, decide_true, decide_false, and_true, true_and, and_false, false_and, not_true_eq_false, not_false_eq_true] | simp only [eq_true hg, decide_true, decide_false, and_true, true_and, and_false, false_and, not_true_eq_false, not_false_eq_true] | simp only [hg, decide_true, decide_false, and_true, true_and, and_false, false_and, not_true_eq_false, not_false_eq_true])
      | (with_reducible refine And.intro rfl (And.intro rfl rfl))
      | (with_reducible refine thenQ_n ?_)
      | (with_reducible refine thenQ_exit ?_)
      | (with_reducible refine thenQ_ret ?_)
      | (with_reducible refine midQ_ret ?_)
      | (with_reducible refine midQ_exit ?_)
      | (with_reducible refine blockQ_same ?_)
      | (with_reducible refine blockQ_ret ?_)
      | (with_reducible refine blockQ_n ?_)
      | (with_reducible refine AW.exit ?_)
      | (with_reducible refine AW.block ?_)
      | (with_reducible refine AW.cond_t rfl ?_)
      | (with_reducible refine AW.cond_f rfl ?_)
      | (with_reducible refine AW.cond_dec rfl (fun hc => ?_) (fun hc => ?_))
      | (with_reducible refine AW.cond rfl (fun hc => ?_) (fun hc => ?_) <;> try simp only [Bool.not_eq_eq_eq_not, Bool.not_true, Bool.not_false, decide_eq_true_eq, decide_eq_false_iff_not] at hc)
      | (with_reducible refine AW.seq ?_)
      | (with_reducible refine AW.skip ?_)
      | (with_reducible refine AW.ret ?_)
      | (with_reducible refine And.intro ?_ ?_)
      | (with_reducible intro hg; first | simp only [eq_false hg, decide_true, decide_false, and_true, true_and, and_false, false_and, not_true_eq_false, not_false_eq_true] | simp only [eq_true hg, decide_true, decide_false, and_true, true_and, and_false, false_and, not_true_eq_false, not_false_eq_true])
      | (with_reducible refine retQ_drop ?_; simp only [vRes, packRes, vLoad, vPart, lk, cond, Nat.reduceBEq, get_loc, getD_zero, getD_succ, true_and, List.length_cons, List.length_nil, Nat.reduceAdd, Nat.reduceLT, Nat.reduceLeDiff, List.take_succ_cons, List.take_zero, List.drop_succ_cons, List.drop_zero, vvar_4, vzero_4, vknd_4, vsn_4, vvar_27, vzero_27, vbld_27, vsl_44, vkn_44, vvar_44, vzero_44, vvar_74, vzero_74])
      )
    refine ⟨_, _, FinOk.drop hB (Pl.ids (by (repeat' (first | exact Pl.v _ | exact Pl.junk | exact Pl.rd rfl _ | exact pl_nil | refine pl_cons ?_ ?_ | refine Pl.agg ?_ | refine Pl.tup ?_ | refine Pl.rp ?_ | refine Pl.fn ?_)); (first | done | fail))), ?_, rfl⟩
    refine v_bool ?_
    rw [decide_eq_true_eq]
    exact ⟨fun h => ⟨hok, h⟩, fun h => h.2⟩
  · have hd : decide (ChOk c) = false := decide_eq_false hok
    refine AC.enter envOk Try.func43 rfl (by decide) Try.ntmps43 Try.results43 (by simp) fun hB => ?_
    repeat' (first
      | (with_reducible refine AW.sreg envOk fun K hK => ?_)
      | (with_reducible refine AW.region envOk fun K hK => ?_)
      | (with_reducible refine vcL_nil ?_)
      | (with_reducible refine vcL_cons fun K' hK' => ?_; simp only [vAppend, elems, ↓reduceDIte, List.take_length, Nat.le_refl, List.drop_zero, vGuard, undef, Bool.not_eq_eq_eq_not, dstOk, vcOp, vcF, isPure, putS, vcCall, St.ev, St.put, lk, AVal.ofVal, initS, Nat.reduceLT, true_and, and_true, vBin, vUn, vPick, vConv, vPart, vLoad, vStore, vIdxA, vIdx, vFldA, vExt, vLen, vMin, vNil, vAlloc, vBox, vBuild, vBuildSl, vMake, vSlice, bnd, partsA, fillA, decAll, AVal.flat, AVal.cell, cellsOk, setRange, ETy.enc, ETy.dec, ETy.sz, ETy.d, cond, Nat.reduceBEq, Nat.reduceAdd, Int.toNat_natCast, List.length_set, List.length_append, List.length_replicate, List.length_take, Nat.reduceSub, Nat.reduceEqDiff, get_loc, setBox_loc, next_eq, List.length_cons, List.length_nil, List.map_cons, List.map_nil, List.append_nil, List.nil_append, List.cons_append, List.set_cons_zero, List.set_cons_succ, getD_zero, getD_succ, List.getElem?_cons_succ, List.getElem?_cons_zero, List.take_succ_cons, List.take_zero, List.drop_succ_cons, List.drop_zero, List.all_cons, List.all_nil, Bool.and_true, Bool.true_and, Option.bind_some, Option.map_some, Option.map_none, decide_eq_true_eq, decide_eq_false_iff_not, ne_eq, Bool.not_eq_true, Bool.not_eq_false, Decidable.not_not, not_true_eq_false, not_false_eq_true, forall_const, false_implies, Bool.true_eq_false, Bool.false_eq_true, reduceCtorEq, decide_true, decide_false, Bool.not_true, Bool.not_false, if_true, if_false, Nat.zero_add, Nat.lt_irrefl, Value.oneCell', gt_iff_lt, Nat.reduceLeDiff, Nat.lt_add_one, List.length_append, vMakeMap, vLookup, vMapUpd, vMapEnt, vEntSt, vRange, vEntry, KK.of, KK.av, lkRes, entry_last, vvar_4, vzero_4, vknd_4, vsn_4, vvar_27, vzero_27, vbld_27, vsl_44, vkn_44, vvar_44, vzero_44, vvar_74, vzero_74, hd]; try simp (disch := omega) only [wrap64])
      | (with_reducible refine hK' _ ?_; clear hK' K')
      | (with_reducible refine hK _ ?_; clear hK K)
      | ((with_reducible show vCall _ (AVal.fn 49 _) _ _ _); refine vCall_pure (AC.lent0 (by (repeat' (first | exact trivial | exact LentV.rowL rfl rfl rfl | exact LentV.rowL rfl rfl (by assumption) | refine LentV.boxL rfl ?_ | exact LentV.nil _ | exact LentV.same _ | refine LentV.aggL ?_ | refine And.intro ?_ ?_)); (first | done | fail)) (by (repeat' (first | exact NoRd.v _ | exact NoRd.sl | exact NoRd.mp | exact NoRd.tup nord_nil | refine NoRd.tup ?_ | refine NoRd.agg ?_ | exact nord_nil | refine nord_cons ?_ ?_)); (first | done | fail)) (is49_ac c (by omega) (by omega) _)) ?_)
      | ((with_reducible show vcC _ 49 _ _ _); refine vcC_pure (AC.lent0 (by (repeat' (first | exact trivial | exact LentV.rowL rfl rfl rfl | exact LentV.rowL rfl rfl (by assumption) | refine LentV.boxL rfl ?_ | exact LentV.nil _ | exact LentV.same _ | refine LentV.aggL ?_ | refine And.intro ?_ ?_)); (first | done | fail)) (by (repeat' (first | exact NoRd.v _ | exact NoRd.sl | exact NoRd.mp | exact NoRd.tup nord_nil | refine NoRd.tup ?_ | refine NoRd.agg ?_ | exact nord_nil | refine nord_cons ?_ ?_)); (first | done | fail)) (is49_ac c (by omega) (by omega) _)) ?_)
      | (with_reducible refine And.intro (And.intro rfl rfl) ?_)
      | (with_reducible refine And.intro (by omega) ?_)
      | (with_reducible refine And.intro (fun hg => ?_) (fun hg => ?_) <;> first | simp only [eq_false hg, decide_true, decide_false, and_true, true_and, and_false, false_and, not_true_eq_false, not_false_eq_true] | simp only [eq_true hg, decide_true, decide_false, and_true, true_and, and_false, false_and, not_true_eq_false, not_false_eq_true] | simp only [hg, decide_true, decide_false, and_true, true_and, and_false, false_and, not_true_eq_false, not_false_eq_true])
      | (with_reducible refine And.intro rfl (And.intro rfl rfl))
      | (with_reducible refine thenQ_n ?_)
      | (with_reducible refine thenQ_exit ?_)
      | (with_reducible refine thenQ_ret ?_)
      | (with_reducible refine midQ_ret ?_)
      | (with_reducible refine midQ_exit ?_)
      | (with_reducible refine blockQ_same ?_)
      | (with_reducible refine blockQ_ret ?_)
      | (with_reducible refine blockQ_n ?_)
      | (with_reducible refine AW.exit ?_)
      | (with_reducible refine AW.block ?_)
      | (with_reducible refine AW.cond_t rfl ?_)
      | (with_reducible refine AW.cond_f rfl ?_)
      | (with_reducible refine AW.cond_dec rfl (fun hc => ?_) (fun hc => ?_))
      | (with_reducible refine AW.cond rfl (fun hc => ?_) (fun hc => ?_) <;> try simp only [Bool.not_eq_eq_eq_not, Bool.not_true, Bool.not_false, decide_eq_true_eq, decide_eq_false_iff_not] at hc)
      | (with_reducible refine AW.seq ?_)
      | (with_reducible refine AW.skip ?_)
      | (with_reducible refine AW.ret ?_)
      | (with_reducible refine And.intro ?_ ?_)
      | (with_reducible intro hg; first | simp only [eq_false hg, decide_true, decide_false, and_true, true_and, and_false, false_and, not_true_eq_false, not_false_eq_true] | simp only [eq_true hg, decide_true, decide_false, and_true, true_and, and_false, false_and, not_true_eq_false, not_false_eq_true])
      | (with_reducible refine retQ_drop ?_; simp only [vRes, packRes, vLoad, vPart, lk, cond, Nat.reduceBEq, get_loc, getD_zero, getD_succ, true_and, List.length_cons, List.length_nil, Nat.reduceAdd, Nat.reduceLT, Nat.reduceLeDiff, List.take_succ_cons, List.take_zero, List.drop_succ_cons, List.drop_zero, vvar_4, vzero_4, vknd_4, vsn_4, vvar_27, vzero_27, vbld_27, vsl_44, vkn_44, vvar_44, vzero_44, vvar_74, vzero_74])
      )
    refine ⟨_, _, FinOk.drop hB (Pl.ids (by (repeat' (first | exact Pl.v _ | exact Pl.junk | exact Pl.rd rfl _ | exact pl_nil | refine pl_cons ?_ ?_ | refine Pl.agg ?_ | refine Pl.tup ?_ | refine Pl.rp ?_ | refine Pl.fn ?_)); (first | done | fail))), ?_, rfl⟩
    exact v_bool ⟨fun h => absurd h (by decide), fun h => absurd h.1 hok⟩
theorem nets58s_ac (c : Ch) (hx : c.1.length ≤ 2000000) (hy : c.2.length = c.1.length) {H : List ABox} {kc : Nat} (h : H[kc]? = some (.box false [.rd (.int .i64) c.1, .rd (.int .i64) c.2])) :
    AC Try.prog 58 [.ptr 1 kc 0 0] H (fun r H' => r = .rd (.int .i64) (nets c) ∧ H' = H) := by
  refine AC.sealN (new := [.row false (.int .i64) (nets c)]) (X := .sl 1 H.length 0 (nets c).length) ?_ (Pl.ids (by (repeat' (first | exact Pl.v _ | exact Pl.junk | exact Pl.rd rfl _ | exact pl_nil | refine pl_cons ?_ ?_ | refine Pl.agg ?_ | refine Pl.tup ?_ | refine Pl.rp ?_ | refine Pl.fn ?_)); (first | done | fail))) (AC.lentN (args' := [.rp [.rd (.int .i64) (c).1, .rd (.int .i64) (c).2] 0]) (by simp only [killAll_length]) ⟨lentC h, trivial⟩ (by (repeat' (first | exact NoRd.v _ | exact NoRd.sl | exact NoRd.mp | exact NoRd.tup nord_nil | refine NoRd.tup ?_ | refine NoRd.agg ?_ | exact nord_nil | refine nord_cons ?_ ?_)); (first | done | fail)) (by (repeat' (first | exact nordW_nil | refine nordW_cons ?_ ?_ | exact And.intro rfl rfl | exact trivial)); (first | done | fail)) (nets58_ac c hx hy _))
  rw [← killAll_length H]
  exact LentV.rowL (j := 0) rfl rfl rfl
theorem apart_sym (c : Ch) (x y : Int) (h : Apart c x y) : Apart c y x := ⟨fun e => h.1 e.symm, h.2.2, h.2.1⟩
theorem apart_irr (c : Ch) (x : Int) : ¬ Apart c x x := fun h => h.1 rfl
theorem apS_rel (c : Ch) : Rel (nets c) (Apart c) (mk (apS c (nets c).length 0) (nets c).length) := mk_rel fun p hp j hj => by
  unfold apS UpTo
  exact ⟨fun h => h.1, fun h => ⟨h, .inl hp⟩⟩
theorem ahS_rel (c : Ch) : Rel (nets c) (fun k i => Above c i k) (mk (ahS c (nets c).length 0) (nets c).length) := mk_rel fun p hp j hj => by
  unfold ahS UpTo
  exact ⟨fun h => h.1, fun h => ⟨h, .inl hj⟩⟩
theorem good_all {ns : List Int} {AP AB : Int → Int → Prop} {tr : Mz} (h : Good ns AP AB tr) : AllIn ns tr := fun l hl => (h.rows l hl).2.2
theorem impl45_ac (c : Ch) (hx : c.1.length ≤ 2000000) (hy : c.2.length ≤ 2000000) (tr : Mz) (hf : Fits 1048576 tr) (H : List ABox) : AC Try.prog 45 [.agg [.rd (.int .i64) (c).1, .rd (.int .i64) (c).2], .rd (.sli .i64) (tr)] H (fun r H' => r = .v (.bool (decide (RoutOk c tr))) ∧ H' = H) := by
  have hn := nets_len c
  by_cases hok : ChOk c
  · have hd : decide (ChOk c) = true := decide_eq_true hok
    have hyy := hok.1.2.2
    have hm1 := (mk_len (apS c (nets c).length 0) (nets c).length).symm
    have hm2 := (mk_len (ahS c (nets c).length 0) (nets c).length).symm
    by_cases hall : AllIn (nets c) tr
    · have hR : placesR (nets c) tr = .tup [.rd (.sli .i64) (psM (nets c) tr), .v (.bool (true))] := if_pos hall
      refine AC.enter envOk Try.func45 rfl (by decide) Try.ntmps45 Try.results45 (by simp) fun hB => ?_
      repeat' (first
        | (with_reducible refine AW.sreg envOk fun K hK => ?_)
        | (with_reducible refine AW.region envOk fun K hK => ?_)
        | (with_reducible refine vcL_nil ?_)
        | (with_reducible refine vcL_cons fun K' hK' => ?_; simp only [vAppend, elems, ↓reduceDIte, List.take_length, Nat.le_refl, List.drop_zero, vGuard, undef, Bool.not_eq_eq_eq_not, dstOk, vcOp, vcF, isPure, putS, vcCall, St.ev, St.put, lk, AVal.ofVal, initS, Nat.reduceLT, true_and, and_true, vBin, vUn, vPick, vConv, vPart, vLoad, vStore, vIdxA, vIdx, vFldA, vExt, vLen, vMin, vNil, vAlloc, vBox, vBuild, vBuildSl, vMake, vSlice, bnd, partsA, fillA, decAll, AVal.flat, AVal.cell, cellsOk, setRange, ETy.enc, ETy.dec, ETy.sz, ETy.d, cond, Nat.reduceBEq, Nat.reduceAdd, Int.toNat_natCast, List.length_set, List.length_append, List.length_replicate, List.length_take, Nat.reduceSub, Nat.reduceEqDiff, get_loc, setBox_loc, next_eq, List.length_cons, List.length_nil, List.map_cons, List.map_nil, List.append_nil, List.nil_append, List.cons_append, List.set_cons_zero, List.set_cons_succ, getD_zero, getD_succ, List.getElem?_cons_succ, List.getElem?_cons_zero, List.take_succ_cons, List.take_zero, List.drop_succ_cons, List.drop_zero, List.all_cons, List.all_nil, Bool.and_true, Bool.true_and, Option.bind_some, Option.map_some, Option.map_none, decide_eq_true_eq, decide_eq_false_iff_not, ne_eq, Bool.not_eq_true, Bool.not_eq_false, Decidable.not_not, not_true_eq_false, not_false_eq_true, forall_const, false_implies, Bool.true_eq_false, Bool.false_eq_true, reduceCtorEq, decide_true, decide_false, Bool.not_true, Bool.not_false, if_true, if_false, Nat.zero_add, Nat.lt_irrefl, Value.oneCell', gt_iff_lt, Nat.reduceLeDiff, Nat.lt_add_one, List.length_append, vMakeMap, vLookup, vMapUpd, vMapEnt, vEntSt, vRange, vEntry, KK.of, KK.av, lkRes, entry_last, vvar_4, vzero_4, vknd_4, vsn_4, vsl_22, vkn_22, vvar_22, vzero_22, vvar_27, vzero_27, vbld_27, vsl_44, vkn_44, vvar_44, vzero_44, vsl_77, vkn_77, vvar_77, vzero_77, vvar_92, vzero_92, vbld_92, hd, hR]; try simp (disch := omega) only [wrap64])
        | (with_reducible refine hK' _ ?_; clear hK' K')
        | (with_reducible refine hK _ ?_; clear hK K)
        | ((with_reducible show vCall _ (AVal.fn 17 _) _ _ _); refine vCall_pure (is17_ac c (by omega) (by omega) _) ?_)
        | ((with_reducible show vcC _ 17 _ _ _); refine vcC_pure (is17_ac c (by omega) (by omega) _) ?_)
        | ((with_reducible show vCall _ (AVal.fn 58 _) _ _ _); refine vCall_pure (nets58s_ac c hx hyy (by rw [app_get]; rfl)) ?_)
        | ((with_reducible show vcC _ 58 _ _ _); refine vcC_pure (nets58s_ac c hx hyy (by rw [app_get]; rfl)) ?_)
        | ((with_reducible show vCall _ (AVal.fn 74 _) _ _ _); refine vCall_pure (places74_ac (nets c) tr (by omega) hf _) ?_)
        | ((with_reducible show vcC _ 74 _ _ _); refine vcC_pure (places74_ac (nets c) tr (by omega) hf _) ?_)
        | ((with_reducible show vCall _ (AVal.fn 75 _) _ _ _); refine vCall_newE (AC.lentN (by simp only [killAll_length, List.length_append, List.length_cons, List.length_nil, Nat.add_assoc, Nat.reduceAdd]; rfl) (by (repeat' (first | exact trivial | exact LentV.rowL rfl rfl rfl | exact LentV.rowL rfl rfl (by assumption) | refine LentV.boxL rfl ?_ | exact LentV.nil _ | exact LentV.same _ | refine LentV.aggL ?_ | refine And.intro ?_ ?_)); (first | done | fail)) (by (repeat' (first | exact NoRd.v _ | exact NoRd.sl | exact NoRd.mp | exact NoRd.tup nord_nil | refine NoRd.tup ?_ | refine NoRd.agg ?_ | exact nord_nil | refine nord_cons ?_ ?_)); (first | done | fail)) (by (repeat' (first | exact nordW_nil | refine nordW_cons ?_ ?_ | exact And.intro rfl rfl | exact trivial)); (first | done | fail)) (netOrd75_ac c hx hyy _)) rfl ?_)
        | ((with_reducible show vCall _ (AVal.fn 76 _) _ _ _); refine vCall_pure (AC.lent0 (by (repeat' (first | exact trivial | exact LentV.rowL rfl rfl rfl | exact LentV.rowL rfl rfl (by assumption) | refine LentV.boxL rfl ?_ | exact LentV.nil _ | exact LentV.same _ | refine LentV.aggL ?_ | refine And.intro ?_ ?_)); (first | done | fail)) (by (repeat' (first | exact NoRd.v _ | exact NoRd.sl | exact NoRd.mp | exact NoRd.tup nord_nil | refine NoRd.tup ?_ | refine NoRd.agg ?_ | exact nord_nil | refine nord_cons ?_ ?_)); (first | done | fail)) (sets76_ac (nets c) (nets_sorted c) (Apart c) (Above c) (apart_irr c) (apart_sym c) _ _ (apS_rel c) (ahS_rel c) (by omega) tr hf hall _)) ?_)
        | ((with_reducible show vcC _ 76 _ _ _); refine vcC_pure (AC.lent0 (by (repeat' (first | exact trivial | exact LentV.rowL rfl rfl rfl | exact LentV.rowL rfl rfl (by assumption) | refine LentV.boxL rfl ?_ | exact LentV.nil _ | exact LentV.same _ | refine LentV.aggL ?_ | refine And.intro ?_ ?_)); (first | done | fail)) (by (repeat' (first | exact NoRd.v _ | exact NoRd.sl | exact NoRd.mp | exact NoRd.tup nord_nil | refine NoRd.tup ?_ | refine NoRd.agg ?_ | exact nord_nil | refine nord_cons ?_ ?_)); (first | done | fail)) (sets76_ac (nets c) (nets_sorted c) (Apart c) (Above c) (apart_irr c) (apart_sym c) _ _ (apS_rel c) (ahS_rel c) (by omega) tr hf hall _)) ?_)
        | (with_reducible refine And.intro (And.intro rfl rfl) ?_)
        | (with_reducible refine And.intro (by omega) ?_)
        | (with_reducible refine And.intro (fun hg => ?_) (fun hg => ?_) <;> first | simp only [eq_false hg, decide_true, decide_false, and_true, true_and, and_false, false_and, not_true_eq_false, not_false_eq_true] | simp only [eq_true hg, decide_true, decide_false, and_true, true_and, and_false, false_and, not_true_eq_false, not_false_eq_true] | simp only [hg, decide_true, decide_false, and_true, true_and, and_false, false_and, not_true_eq_false, not_false_eq_true])
        | (with_reducible refine And.intro rfl (And.intro rfl rfl))
        | (with_reducible refine thenQ_n ?_)
        | (with_reducible refine thenQ_exit ?_)
        | (with_reducible refine thenQ_ret ?_)
        | (with_reducible refine midQ_ret ?_)
        | (with_reducible refine midQ_exit ?_)
        | (with_reducible refine blockQ_same ?_)
        | (with_reducible refine blockQ_ret ?_)
        | (with_reducible refine blockQ_n ?_)
        | (with_reducible refine AW.exit ?_)
        | (with_reducible refine AW.block ?_)
        | (with_reducible refine AW.cond_t rfl ?_)
        | (with_reducible refine AW.cond_f rfl ?_)
        | (with_reducible refine AW.cond_dec rfl (fun hc => ?_) (fun hc => ?_))
        | (with_reducible refine AW.cond rfl (fun hc => ?_) (fun hc => ?_) <;> try simp only [Bool.not_eq_eq_eq_not, Bool.not_true, Bool.not_false, decide_eq_true_eq, decide_eq_false_iff_not] at hc)
        | (with_reducible refine AW.seq ?_)
        | (with_reducible refine AW.skip ?_)
        | (with_reducible refine AW.ret ?_)
        | (with_reducible refine And.intro ?_ ?_)
        | (with_reducible intro hg; first | simp only [eq_false hg, decide_true, decide_false, and_true, true_and, and_false, false_and, not_true_eq_false, not_false_eq_true] | simp only [eq_true hg, decide_true, decide_false, and_true, true_and, and_false, false_and, not_true_eq_false, not_false_eq_true])
        | (with_reducible refine retQ_drop ?_; simp only [vRes, packRes, vLoad, vPart, lk, cond, Nat.reduceBEq, get_loc, getD_zero, getD_succ, true_and, List.length_cons, List.length_nil, Nat.reduceAdd, Nat.reduceLT, Nat.reduceLeDiff, List.take_succ_cons, List.take_zero, List.drop_succ_cons, List.drop_zero, vvar_4, vzero_4, vknd_4, vsn_4, vsl_22, vkn_22, vvar_22, vzero_22, vvar_27, vzero_27, vbld_27, vsl_44, vkn_44, vvar_44, vzero_44, vsl_77, vkn_77, vvar_77, vzero_77, vvar_92, vzero_92, vbld_92])
        )
      refine ⟨_, _, FinOk.drop hB (Pl.ids (by (repeat' (first | exact Pl.v _ | exact Pl.junk | exact Pl.rd rfl _ | exact pl_nil | refine pl_cons ?_ ?_ | refine Pl.agg ?_ | refine Pl.tup ?_ | refine Pl.rp ?_ | refine Pl.fn ?_)); (first | done | fail))), ?_, rfl⟩
      refine v_bool ?_
      rw [decide_eq_true_eq]
      exact ⟨fun h => ⟨hok, h⟩, fun h => h.2⟩
    · have hR : placesR (nets c) tr = .tup [.v (.slice none 0 0), .v (.bool (false))] := if_neg hall
      refine AC.enter envOk Try.func45 rfl (by decide) Try.ntmps45 Try.results45 (by simp) fun hB => ?_
      repeat' (first
        | (with_reducible refine AW.sreg envOk fun K hK => ?_)
        | (with_reducible refine AW.region envOk fun K hK => ?_)
        | (with_reducible refine vcL_nil ?_)
        | (with_reducible refine vcL_cons fun K' hK' => ?_; simp only [vAppend, elems, ↓reduceDIte, List.take_length, Nat.le_refl, List.drop_zero, vGuard, undef, Bool.not_eq_eq_eq_not, dstOk, vcOp, vcF, isPure, putS, vcCall, St.ev, St.put, lk, AVal.ofVal, initS, Nat.reduceLT, true_and, and_true, vBin, vUn, vPick, vConv, vPart, vLoad, vStore, vIdxA, vIdx, vFldA, vExt, vLen, vMin, vNil, vAlloc, vBox, vBuild, vBuildSl, vMake, vSlice, bnd, partsA, fillA, decAll, AVal.flat, AVal.cell, cellsOk, setRange, ETy.enc, ETy.dec, ETy.sz, ETy.d, cond, Nat.reduceBEq, Nat.reduceAdd, Int.toNat_natCast, List.length_set, List.length_append, List.length_replicate, List.length_take, Nat.reduceSub, Nat.reduceEqDiff, get_loc, setBox_loc, next_eq, List.length_cons, List.length_nil, List.map_cons, List.map_nil, List.append_nil, List.nil_append, List.cons_append, List.set_cons_zero, List.set_cons_succ, getD_zero, getD_succ, List.getElem?_cons_succ, List.getElem?_cons_zero, List.take_succ_cons, List.take_zero, List.drop_succ_cons, List.drop_zero, List.all_cons, List.all_nil, Bool.and_true, Bool.true_and, Option.bind_some, Option.map_some, Option.map_none, decide_eq_true_eq, decide_eq_false_iff_not, ne_eq, Bool.not_eq_true, Bool.not_eq_false, Decidable.not_not, not_true_eq_false, not_false_eq_true, forall_const, false_implies, Bool.true_eq_false, Bool.false_eq_true, reduceCtorEq, decide_true, decide_false, Bool.not_true, Bool.not_false, if_true, if_false, Nat.zero_add, Nat.lt_irrefl, Value.oneCell', gt_iff_lt, Nat.reduceLeDiff, Nat.lt_add_one, List.length_append, vMakeMap, vLookup, vMapUpd, vMapEnt, vEntSt, vRange, vEntry, KK.of, KK.av, lkRes, entry_last, vvar_4, vzero_4, vknd_4, vsn_4, vsl_22, vkn_22, vvar_22, vzero_22, vvar_27, vzero_27, vbld_27, vsl_44, vkn_44, vvar_44, vzero_44, vsl_77, vkn_77, vvar_77, vzero_77, vvar_92, vzero_92, vbld_92, hd, hR]; try simp (disch := omega) only [wrap64])
        | (with_reducible refine hK' _ ?_; clear hK' K')
        | (with_reducible refine hK _ ?_; clear hK K)
        | ((with_reducible show vCall _ (AVal.fn 17 _) _ _ _); refine vCall_pure (is17_ac c (by omega) (by omega) _) ?_)
        | ((with_reducible show vcC _ 17 _ _ _); refine vcC_pure (is17_ac c (by omega) (by omega) _) ?_)
        | ((with_reducible show vCall _ (AVal.fn 58 _) _ _ _); refine vCall_pure (nets58s_ac c hx hyy (by rw [app_get]; rfl)) ?_)
        | ((with_reducible show vcC _ 58 _ _ _); refine vcC_pure (nets58s_ac c hx hyy (by rw [app_get]; rfl)) ?_)
        | ((with_reducible show vCall _ (AVal.fn 74 _) _ _ _); refine vCall_pure (places74_ac (nets c) tr (by omega) hf _) ?_)
        | ((with_reducible show vcC _ 74 _ _ _); refine vcC_pure (places74_ac (nets c) tr (by omega) hf _) ?_)
        | (with_reducible refine And.intro (And.intro rfl rfl) ?_)
        | (with_reducible refine And.intro (by omega) ?_)
        | (with_reducible refine And.intro (fun hg => ?_) (fun hg => ?_) <;> first | simp only [eq_false hg, decide_true, decide_false, and_true, true_and, and_false, false_and, not_true_eq_false, not_false_eq_true] | simp only [eq_true hg, decide_true, decide_false, and_true, true_and, and_false, false_and, not_true_eq_false, not_false_eq_true] | simp only [hg, decide_true, decide_false, and_true, true_and, and_false, false_and, not_true_eq_false, not_false_eq_true])
        | (with_reducible refine And.intro rfl (And.intro rfl rfl))
        | (with_reducible refine thenQ_n ?_)
        | (with_reducible refine thenQ_exit ?_)
        | (with_reducible refine thenQ_ret ?_)
        | (with_reducible refine midQ_ret ?_)
        | (with_reducible refine midQ_exit ?_)
        | (with_reducible refine blockQ_same ?_)
        | (with_reducible refine blockQ_ret ?_)
        | (with_reducible refine blockQ_n ?_)
        | (with_reducible refine AW.exit ?_)
        | (with_reducible refine AW.block ?_)
        | (with_reducible refine AW.cond_t rfl ?_)
        | (with_reducible refine AW.cond_f rfl ?_)
        | (with_reducible refine AW.cond_dec rfl (fun hc => ?_) (fun hc => ?_))
        | (with_reducible refine AW.cond rfl (fun hc => ?_) (fun hc => ?_) <;> try simp only [Bool.not_eq_eq_eq_not, Bool.not_true, Bool.not_false, decide_eq_true_eq, decide_eq_false_iff_not] at hc)
        | (with_reducible refine AW.seq ?_)
        | (with_reducible refine AW.skip ?_)
        | (with_reducible refine AW.ret ?_)
        | (with_reducible refine And.intro ?_ ?_)
        | (with_reducible intro hg; first | simp only [eq_false hg, decide_true, decide_false, and_true, true_and, and_false, false_and, not_true_eq_false, not_false_eq_true] | simp only [eq_true hg, decide_true, decide_false, and_true, true_and, and_false, false_and, not_true_eq_false, not_false_eq_true])
        | (with_reducible refine retQ_drop ?_; simp only [vRes, packRes, vLoad, vPart, lk, cond, Nat.reduceBEq, get_loc, getD_zero, getD_succ, true_and, List.length_cons, List.length_nil, Nat.reduceAdd, Nat.reduceLT, Nat.reduceLeDiff, List.take_succ_cons, List.take_zero, List.drop_succ_cons, List.drop_zero, vvar_4, vzero_4, vknd_4, vsn_4, vsl_22, vkn_22, vvar_22, vzero_22, vvar_27, vzero_27, vbld_27, vsl_44, vkn_44, vvar_44, vzero_44, vsl_77, vkn_77, vvar_77, vzero_77, vvar_92, vzero_92, vbld_92])
        )
      refine ⟨_, _, FinOk.drop hB (Pl.ids (by (repeat' (first | exact Pl.v _ | exact Pl.junk | exact Pl.rd rfl _ | exact pl_nil | refine pl_cons ?_ ?_ | refine Pl.agg ?_ | refine Pl.tup ?_ | refine Pl.rp ?_ | refine Pl.fn ?_)); (first | done | fail))), ?_, rfl⟩
      exact v_bool ⟨fun h => absurd h (by decide), fun h => absurd (good_all h.2) hall⟩
  · have hd : decide (ChOk c) = false := decide_eq_false hok
    refine AC.enter envOk Try.func45 rfl (by decide) Try.ntmps45 Try.results45 (by simp) fun hB => ?_
    repeat' (first
      | (with_reducible refine AW.sreg envOk fun K hK => ?_)
      | (with_reducible refine AW.region envOk fun K hK => ?_)
      | (with_reducible refine vcL_nil ?_)
      | (with_reducible refine vcL_cons fun K' hK' => ?_; simp only [vAppend, elems, ↓reduceDIte, List.take_length, Nat.le_refl, List.drop_zero, vGuard, undef, Bool.not_eq_eq_eq_not, dstOk, vcOp, vcF, isPure, putS, vcCall, St.ev, St.put, lk, AVal.ofVal, initS, Nat.reduceLT, true_and, and_true, vBin, vUn, vPick, vConv, vPart, vLoad, vStore, vIdxA, vIdx, vFldA, vExt, vLen, vMin, vNil, vAlloc, vBox, vBuild, vBuildSl, vMake, vSlice, bnd, partsA, fillA, decAll, AVal.flat, AVal.cell, cellsOk, setRange, ETy.enc, ETy.dec, ETy.sz, ETy.d, cond, Nat.reduceBEq, Nat.reduceAdd, Int.toNat_natCast, List.length_set, List.length_append, List.length_replicate, List.length_take, Nat.reduceSub, Nat.reduceEqDiff, get_loc, setBox_loc, next_eq, List.length_cons, List.length_nil, List.map_cons, List.map_nil, List.append_nil, List.nil_append, List.cons_append, List.set_cons_zero, List.set_cons_succ, getD_zero, getD_succ, List.getElem?_cons_succ, List.getElem?_cons_zero, List.take_succ_cons, List.take_zero, List.drop_succ_cons, List.drop_zero, List.all_cons, List.all_nil, Bool.and_true, Bool.true_and, Option.bind_some, Option.map_some, Option.map_none, decide_eq_true_eq, decide_eq_false_iff_not, ne_eq, Bool.not_eq_true, Bool.not_eq_false, Decidable.not_not, not_true_eq_false, not_false_eq_true, forall_const, false_implies, Bool.true_eq_false, Bool.false_eq_true, reduceCtorEq, decide_true, decide_false, Bool.not_true, Bool.not_false, if_true, if_false, Nat.zero_add, Nat.lt_irrefl, Value.oneCell', gt_iff_lt, Nat.reduceLeDiff, Nat.lt_add_one, List.length_append, vMakeMap, vLookup, vMapUpd, vMapEnt, vEntSt, vRange, vEntry, KK.of, KK.av, lkRes, entry_last, vvar_4, vzero_4, vknd_4, vsn_4, vsl_22, vkn_22, vvar_22, vzero_22, vvar_27, vzero_27, vbld_27, vsl_44, vkn_44, vvar_44, vzero_44, vsl_77, vkn_77, vvar_77, vzero_77, vvar_92, vzero_92, vbld_92, hd]; try simp (disch := omega) only [wrap64])
      | (with_reducible refine hK' _ ?_; clear hK' K')
      | (with_reducible refine hK _ ?_; clear hK K)
      | ((with_reducible show vCall _ (AVal.fn 17 _) _ _ _); refine vCall_pure (is17_ac c (by omega) (by omega) _) ?_)
      | ((with_reducible show vcC _ 17 _ _ _); refine vcC_pure (is17_ac c (by omega) (by omega) _) ?_)
      | (with_reducible refine And.intro (And.intro rfl rfl) ?_)
      | (with_reducible refine And.intro (by omega) ?_)
      | (with_reducible refine And.intro (fun hg => ?_) (fun hg => ?_) <;> first | simp only [eq_false hg, decide_true, decide_false, and_true, true_and, and_false, false_and, not_true_eq_false, not_false_eq_true] | simp only [eq_true hg, decide_true, decide_false, and_true, true_and, and_false, false_and, not_true_eq_false, not_false_eq_true] | simp only [hg, decide_true, decide_false, and_true, true_and, and_false, false_and, not_true_eq_false, not_false_eq_true])
      | (with_reducible refine And.intro rfl (And.intro rfl rfl))
      | (with_reducible refine thenQ_n ?_)
      | (with_reducible refine thenQ_exit ?_)
      | (with_reducible refine thenQ_ret ?_)
      | (with_reducible refine midQ_ret ?_)
      | (with_reducible refine midQ_exit ?_)
      | (with_reducible refine blockQ_same ?_)
      | (with_reducible refine blockQ_ret ?_)
      | (with_reducible refine blockQ_n ?_)
      | (with_reducible refine AW.exit ?_)
      | (with_reducible refine AW.block ?_)
      | (with_reducible refine AW.cond_t rfl ?_)
      | (with_reducible refine AW.cond_f rfl ?_)
      | (with_reducible refine AW.cond_dec rfl (fun hc => ?_) (fun hc => ?_))
      | (with_reducible refine AW.cond rfl (fun hc => ?_) (fun hc => ?_) <;> try simp only [Bool.not_eq_eq_eq_not, Bool.not_true, Bool.not_false, decide_eq_true_eq, decide_eq_false_iff_not] at hc)
      | (with_reducible refine AW.seq ?_)
      | (with_reducible refine AW.skip ?_)
      | (with_reducible refine AW.ret ?_)
      | (with_reducible refine And.intro ?_ ?_)
      | (with_reducible intro hg; first | simp only [eq_false hg, decide_true, decide_false, and_true, true_and, and_false, false_and, not_true_eq_false, not_false_eq_true] | simp only [eq_true hg, decide_true, decide_false, and_true, true_and, and_false, false_and, not_true_eq_false, not_false_eq_true])
      | (with_reducible refine retQ_drop ?_; simp only [vRes, packRes, vLoad, vPart, lk, cond, Nat.reduceBEq, get_loc, getD_zero, getD_succ, true_and, List.length_cons, List.length_nil, Nat.reduceAdd, Nat.reduceLT, Nat.reduceLeDiff, List.take_succ_cons, List.take_zero, List.drop_succ_cons, List.drop_zero, vvar_4, vzero_4, vknd_4, vsn_4, vsl_22, vkn_22, vvar_22, vzero_22, vvar_27, vzero_27, vbld_27, vsl_44, vkn_44, vvar_44, vzero_44, vsl_77, vkn_77, vvar_77, vzero_77, vvar_92, vzero_92, vbld_92])
      )
    refine ⟨_, _, FinOk.drop hB (Pl.ids (by (repeat' (first | exact Pl.v _ | exact Pl.junk | exact Pl.rd rfl _ | exact pl_nil | refine pl_cons ?_ ?_ | refine Pl.agg ?_ | refine Pl.tup ?_ | refine Pl.rp ?_ | refine Pl.fn ?_)); (first | done | fail))), ?_, rfl⟩
    exact v_bool ⟨fun h => absurd h (by decide), fun h => absurd h.1 hok⟩
theorem law12_ac (c : Ch) (tr : Mz) (hx : c.1.length ≤ 9223372036854775807) (hy : c.2.length ≤ 9223372036854775807) (hm : Fits 9223372036854775807 tr) (H : List ABox) : AC Try.prog 12 [.agg [.rd (.int .i64) (c).1, .rd (.int .i64) (c).2], .rd (.sli .i64) (tr)] H (fun r H' => r = .v (.bool true)) := by
  refine AC.enter envOk Try.func12 rfl (by decide) Try.ntmps12 Try.results12 (by simp) fun hB => ?_
  repeat' (first
    | (with_reducible refine AW.sreg envOk fun K hK => ?_)
    | (with_reducible refine AW.region envOk fun K hK => ?_)
    | (with_reducible refine AW.d0reg envOk mixed ?_ ?_ fun K hK => ?_; (first | rfl | exact base_len | exact base_len0); kernel_rfl)
    | (with_reducible refine AW.d0 envOk mixed ?_ ?_ fun K hK => ?_; (first | rfl | exact base_len | exact base_len0); kernel_rfl)
    | (with_reducible refine vcD_nil ?_)
    | (with_reducible refine vcD_cons fun K' hK' => ?_; simp only [vAppend, elems, ↓reduceDIte, List.take_length, Nat.le_refl, List.drop_zero, vGuard, undef, Bool.not_eq_eq_eq_not, dstOk, vcOp, vcF, isPure, putS, vcCall, St.ev, St.put, lk, AVal.ofVal, initS, Nat.reduceLT, true_and, and_true, vBin, vUn, vPick, vConv, vPart, vLoad, vStore, vIdxA, vIdx, vFldA, vExt, vLen, vMin, vNil, vAlloc, vBox, vBuild, vBuildSl, vMake, vSlice, bnd, partsA, fillA, decAll, AVal.flat, AVal.cell, cellsOk, setRange, ETy.enc, ETy.dec, ETy.sz, ETy.d, cond, Nat.reduceBEq, Nat.reduceAdd, Int.toNat_natCast, List.length_set, List.length_append, List.length_replicate, List.length_take, Nat.reduceSub, Nat.reduceEqDiff, get_loc, setBox_loc, next_eq, List.length_cons, List.length_nil, List.map_cons, List.map_nil, List.append_nil, List.nil_append, List.cons_append, List.set_cons_zero, List.set_cons_succ, getD_zero, getD_succ, List.getElem?_cons_succ, List.getElem?_cons_zero, List.take_succ_cons, List.take_zero, List.drop_succ_cons, List.drop_zero, List.all_cons, List.all_nil, Bool.and_true, Bool.true_and, Option.bind_some, Option.map_some, Option.map_none, decide_eq_true_eq, decide_eq_false_iff_not, ne_eq, Bool.not_eq_true, Bool.not_eq_false, Decidable.not_not, not_true_eq_false, not_false_eq_true, forall_const, false_implies, Bool.true_eq_false, Bool.false_eq_true, reduceCtorEq, decide_true, decide_false, Bool.not_true, Bool.not_false, if_true, if_false, Nat.zero_add, Nat.lt_irrefl, Value.oneCell', gt_iff_lt, Nat.reduceLeDiff, Nat.lt_add_one, List.length_append, vMakeMap, vLookup, vMapUpd, vMapEnt, vEntSt, vRange, vEntry, KK.of, KK.av, lkRes, entry_last, vvar_3, vzero_3, vknd_3, vsn_3, vvar_4, vzero_4, vknd_4, vsn_4, vvar_24, vzero_24, vbld_24, vvar_27, vzero_27, vbld_27, vsl_44, vkn_44, vvar_44, vzero_44]; try simp (disch := omega) only [wrap64])
    | (with_reducible refine vcL_nil ?_)
    | (with_reducible refine vcL_cons fun K' hK' => ?_; simp only [vAppend, elems, ↓reduceDIte, List.take_length, Nat.le_refl, List.drop_zero, vGuard, undef, Bool.not_eq_eq_eq_not, dstOk, vcOp, vcF, isPure, putS, vcCall, St.ev, St.put, lk, AVal.ofVal, initS, Nat.reduceLT, true_and, and_true, vBin, vUn, vPick, vConv, vPart, vLoad, vStore, vIdxA, vIdx, vFldA, vExt, vLen, vMin, vNil, vAlloc, vBox, vBuild, vBuildSl, vMake, vSlice, bnd, partsA, fillA, decAll, AVal.flat, AVal.cell, cellsOk, setRange, ETy.enc, ETy.dec, ETy.sz, ETy.d, cond, Nat.reduceBEq, Nat.reduceAdd, Int.toNat_natCast, List.length_set, List.length_append, List.length_replicate, List.length_take, Nat.reduceSub, Nat.reduceEqDiff, get_loc, setBox_loc, next_eq, List.length_cons, List.length_nil, List.map_cons, List.map_nil, List.append_nil, List.nil_append, List.cons_append, List.set_cons_zero, List.set_cons_succ, getD_zero, getD_succ, List.getElem?_cons_succ, List.getElem?_cons_zero, List.take_succ_cons, List.take_zero, List.drop_succ_cons, List.drop_zero, List.all_cons, List.all_nil, Bool.and_true, Bool.true_and, Option.bind_some, Option.map_some, Option.map_none, decide_eq_true_eq, decide_eq_false_iff_not, ne_eq, Bool.not_eq_true, Bool.not_eq_false, Decidable.not_not, not_true_eq_false, not_false_eq_true, forall_const, false_implies, Bool.true_eq_false, Bool.false_eq_true, reduceCtorEq, decide_true, decide_false, Bool.not_true, Bool.not_false, if_true, if_false, Nat.zero_add, Nat.lt_irrefl, Value.oneCell', gt_iff_lt, Nat.reduceLeDiff, Nat.lt_add_one, List.length_append, vMakeMap, vLookup, vMapUpd, vMapEnt, vEntSt, vRange, vEntry, KK.of, KK.av, lkRes, entry_last, vvar_3, vzero_3, vknd_3, vsn_3, vvar_4, vzero_4, vknd_4, vsn_4, vvar_24, vzero_24, vbld_24, vvar_27, vzero_27, vbld_27, vsl_44, vkn_44, vvar_44, vzero_44]; try simp (disch := omega) only [wrap64])
    | (with_reducible refine hK' _ ?_; clear hK' K')
    | (with_reducible refine hK _ ?_; clear hK K)
    | ((with_reducible show vCall _ (AVal.fn 14 _) _ _ _); refine vCall_pure (sz14_ac c _ hx hy (by omega) _) ?_)
    | ((with_reducible show vcC _ 14 _ _ _); refine vcC_pure (sz14_ac c _ hx hy (by omega) _) ?_)
    | ((with_reducible show vCall _ (AVal.fn 42 _) _ _ _); refine vCall_ex (szSS_ac tr _ hm (by omega) _) (fun x hx => ?_))
    | (with_reducible refine And.intro (And.intro rfl rfl) ?_)
    | (with_reducible refine And.intro (by omega) ?_)
    | (with_reducible refine And.intro (fun hg => ?_) (fun hg => ?_) <;> first | simp only [eq_false hg, decide_true, decide_false, and_true, true_and, and_false, false_and, not_true_eq_false, not_false_eq_true] | simp only [eq_true hg, decide_true, decide_false, and_true, true_and, and_false, false_and, not_true_eq_false, not_false_eq_true] | simp only [hg, decide_true, decide_false, and_true, true_and, and_false, false_and, not_true_eq_false, not_false_eq_true])
    | (with_reducible refine And.intro rfl (And.intro rfl rfl))
    | (with_reducible refine thenQ_n ?_)
    | (with_reducible refine thenQ_exit ?_)
    | (with_reducible refine thenQ_ret ?_)
    | (with_reducible refine midQ_ret ?_)
    | (with_reducible refine midQ_exit ?_)
    | (with_reducible refine blockQ_same ?_)
    | (with_reducible refine blockQ_ret ?_)
    | (with_reducible refine blockQ_n ?_)
    | (with_reducible refine AW.exit ?_)
    | (with_reducible refine AW.block ?_)
    | (with_reducible refine AW.cond_t rfl ?_)
    | (with_reducible refine AW.cond_f rfl ?_)
    | (with_reducible refine AW.cond_dec rfl (fun hc => ?_) (fun hc => ?_))
    | (with_reducible refine AW.cond rfl (fun hc => ?_) (fun hc => ?_) <;> try simp only [Bool.not_eq_eq_eq_not, Bool.not_true, Bool.not_false, decide_eq_true_eq, decide_eq_false_iff_not] at hc)
    | (with_reducible refine AW.seq ?_)
    | (with_reducible refine AW.skip ?_)
    | (with_reducible refine AW.ret ?_)
    | (with_reducible refine And.intro ?_ ?_)
    | (with_reducible intro hg; first | simp only [eq_false hg, decide_true, decide_false, and_true, true_and, and_false, false_and, not_true_eq_false, not_false_eq_true] | simp only [eq_true hg, decide_true, decide_false, and_true, true_and, and_false, false_and, not_true_eq_false, not_false_eq_true])
    | (with_reducible refine retQ_drop ?_; simp only [vRes, packRes, vLoad, vPart, lk, cond, Nat.reduceBEq, get_loc, getD_zero, getD_succ, true_and, List.length_cons, List.length_nil, Nat.reduceAdd, Nat.reduceLT, Nat.reduceLeDiff, List.take_succ_cons, List.take_zero, List.drop_succ_cons, List.drop_zero, vvar_3, vzero_3, vknd_3, vsn_3, vvar_4, vzero_4, vknd_4, vsn_4, vvar_24, vzero_24, vbld_24, vvar_27, vzero_27, vbld_27, vsl_44, vkn_44, vvar_44, vzero_44])
    )
  · exact ⟨_, _, FinOk.drop hB (.v _), rfl⟩
  · exact ⟨_, _, FinOk.drop hB (.v _), rfl⟩
  have hs : (c.1.length : Int) + c.2.length ≤ 1048576 := by omega
  have hf : Fits 1048576 tr := by
    rcases hx with h | h
    · exact h.2.2
    · exact absurd h (by omega)
  repeat' (first
    | (with_reducible refine AW.sreg envOk fun K hK => ?_)
    | (with_reducible refine AW.region envOk fun K hK => ?_)
    | (with_reducible refine AW.d0reg envOk mixed ?_ ?_ fun K hK => ?_; (first | rfl | exact base_len | exact base_len0); kernel_rfl)
    | (with_reducible refine AW.d0 envOk mixed ?_ ?_ fun K hK => ?_; (first | rfl | exact base_len | exact base_len0); kernel_rfl)
    | (with_reducible refine vcD_nil ?_)
    | (with_reducible refine vcD_cons fun K' hK' => ?_; simp only [vAppend, elems, ↓reduceDIte, List.take_length, Nat.le_refl, List.drop_zero, vGuard, undef, Bool.not_eq_eq_eq_not, dstOk, vcOp, vcF, isPure, putS, vcCall, St.ev, St.put, lk, AVal.ofVal, initS, Nat.reduceLT, true_and, and_true, vBin, vUn, vPick, vConv, vPart, vLoad, vStore, vIdxA, vIdx, vFldA, vExt, vLen, vMin, vNil, vAlloc, vBox, vBuild, vBuildSl, vMake, vSlice, bnd, partsA, fillA, decAll, AVal.flat, AVal.cell, cellsOk, setRange, ETy.enc, ETy.dec, ETy.sz, ETy.d, cond, Nat.reduceBEq, Nat.reduceAdd, Int.toNat_natCast, List.length_set, List.length_append, List.length_replicate, List.length_take, Nat.reduceSub, Nat.reduceEqDiff, get_loc, setBox_loc, next_eq, List.length_cons, List.length_nil, List.map_cons, List.map_nil, List.append_nil, List.nil_append, List.cons_append, List.set_cons_zero, List.set_cons_succ, getD_zero, getD_succ, List.getElem?_cons_succ, List.getElem?_cons_zero, List.take_succ_cons, List.take_zero, List.drop_succ_cons, List.drop_zero, List.all_cons, List.all_nil, Bool.and_true, Bool.true_and, Option.bind_some, Option.map_some, Option.map_none, decide_eq_true_eq, decide_eq_false_iff_not, ne_eq, Bool.not_eq_true, Bool.not_eq_false, Decidable.not_not, not_true_eq_false, not_false_eq_true, forall_const, false_implies, Bool.true_eq_false, Bool.false_eq_true, reduceCtorEq, decide_true, decide_false, Bool.not_true, Bool.not_false, if_true, if_false, Nat.zero_add, Nat.lt_irrefl, Value.oneCell', gt_iff_lt, Nat.reduceLeDiff, Nat.lt_add_one, List.length_append, vMakeMap, vLookup, vMapUpd, vMapEnt, vEntSt, vRange, vEntry, KK.of, KK.av, lkRes, entry_last, vvar_3, vzero_3, vknd_3, vsn_3, vvar_4, vzero_4, vknd_4, vsn_4, vvar_24, vzero_24, vbld_24, vvar_27, vzero_27, vbld_27, vsl_44, vkn_44, vvar_44, vzero_44]; try simp (disch := omega) only [wrap64])
    | (with_reducible refine vcL_nil ?_)
    | (with_reducible refine vcL_cons fun K' hK' => ?_; simp only [vAppend, elems, ↓reduceDIte, List.take_length, Nat.le_refl, List.drop_zero, vGuard, undef, Bool.not_eq_eq_eq_not, dstOk, vcOp, vcF, isPure, putS, vcCall, St.ev, St.put, lk, AVal.ofVal, initS, Nat.reduceLT, true_and, and_true, vBin, vUn, vPick, vConv, vPart, vLoad, vStore, vIdxA, vIdx, vFldA, vExt, vLen, vMin, vNil, vAlloc, vBox, vBuild, vBuildSl, vMake, vSlice, bnd, partsA, fillA, decAll, AVal.flat, AVal.cell, cellsOk, setRange, ETy.enc, ETy.dec, ETy.sz, ETy.d, cond, Nat.reduceBEq, Nat.reduceAdd, Int.toNat_natCast, List.length_set, List.length_append, List.length_replicate, List.length_take, Nat.reduceSub, Nat.reduceEqDiff, get_loc, setBox_loc, next_eq, List.length_cons, List.length_nil, List.map_cons, List.map_nil, List.append_nil, List.nil_append, List.cons_append, List.set_cons_zero, List.set_cons_succ, getD_zero, getD_succ, List.getElem?_cons_succ, List.getElem?_cons_zero, List.take_succ_cons, List.take_zero, List.drop_succ_cons, List.drop_zero, List.all_cons, List.all_nil, Bool.and_true, Bool.true_and, Option.bind_some, Option.map_some, Option.map_none, decide_eq_true_eq, decide_eq_false_iff_not, ne_eq, Bool.not_eq_true, Bool.not_eq_false, Decidable.not_not, not_true_eq_false, not_false_eq_true, forall_const, false_implies, Bool.true_eq_false, Bool.false_eq_true, reduceCtorEq, decide_true, decide_false, Bool.not_true, Bool.not_false, if_true, if_false, Nat.zero_add, Nat.lt_irrefl, Value.oneCell', gt_iff_lt, Nat.reduceLeDiff, Nat.lt_add_one, List.length_append, vMakeMap, vLookup, vMapUpd, vMapEnt, vEntSt, vRange, vEntry, KK.of, KK.av, lkRes, entry_last, vvar_3, vzero_3, vknd_3, vsn_3, vvar_4, vzero_4, vknd_4, vsn_4, vvar_24, vzero_24, vbld_24, vvar_27, vzero_27, vbld_27, vsl_44, vkn_44, vvar_44, vzero_44]; try simp (disch := omega) only [wrap64])
    | (with_reducible refine hK' _ ?_; clear hK' K')
    | (with_reducible refine hK _ ?_; clear hK K)
    | ((with_reducible show vCall _ (AVal.fn 16 _) _ _ _); refine vCall_pure (toCh_ac c (by omega) (by omega) _) ?_)
    | ((with_reducible show vcC _ 16 _ _ _); refine vcC_pure (toCh_ac c (by omega) (by omega) _) ?_)
    | ((with_reducible show vCall _ (AVal.fn 44 _) _ _ _); refine vCall_pure (toSS_ac tr hf _) ?_)
    | ((with_reducible show vcC _ 44 _ _ _); refine vcC_pure (toSS_ac tr hf _) ?_)
    | ((with_reducible show vCall _ (AVal.fn 43 _) _ _ _); refine vCall_pure (spec43_ac c (by omega) (by omega) tr hf _) ?_)
    | ((with_reducible show vcC _ 43 _ _ _); refine vcC_pure (spec43_ac c (by omega) (by omega) tr hf _) ?_)
    | ((with_reducible show vCall _ (AVal.fn 45 _) _ _ _); refine vCall_pure (impl45_ac c (by omega) (by omega) tr hf _) ?_)
    | ((with_reducible show vcC _ 45 _ _ _); refine vcC_pure (impl45_ac c (by omega) (by omega) tr hf _) ?_)
    | ((with_reducible show vCall _ (AVal.fn 18 _) _ _ _); refine vCall_pure (eqCh_ac c c (by omega) (by omega) (by omega) (by omega) _) ?_)
    | ((with_reducible show vcC _ 18 _ _ _); refine vcC_pure (eqCh_ac c c (by omega) (by omega) (by omega) (by omega) _) ?_)
    | ((with_reducible show vCall _ (AVal.fn 35 _) _ _ _); refine vCall_pure (eqSS_ac tr tr hf hf _) ?_)
    | ((with_reducible show vcC _ 35 _ _ _); refine vcC_pure (eqSS_ac tr tr hf hf _) ?_)
    | (with_reducible refine And.intro (And.intro rfl rfl) ?_)
    | (with_reducible refine And.intro (by omega) ?_)
    | (with_reducible refine And.intro (fun hg => ?_) (fun hg => ?_) <;> first | simp only [eq_false hg, decide_true, decide_false, and_true, true_and, and_false, false_and, not_true_eq_false, not_false_eq_true] | simp only [eq_true hg, decide_true, decide_false, and_true, true_and, and_false, false_and, not_true_eq_false, not_false_eq_true] | simp only [hg, decide_true, decide_false, and_true, true_and, and_false, false_and, not_true_eq_false, not_false_eq_true])
    | (with_reducible refine And.intro rfl (And.intro rfl rfl))
    | (with_reducible refine thenQ_n ?_)
    | (with_reducible refine thenQ_exit ?_)
    | (with_reducible refine thenQ_ret ?_)
    | (with_reducible refine midQ_ret ?_)
    | (with_reducible refine midQ_exit ?_)
    | (with_reducible refine blockQ_same ?_)
    | (with_reducible refine blockQ_ret ?_)
    | (with_reducible refine blockQ_n ?_)
    | (with_reducible refine AW.exit ?_)
    | (with_reducible refine AW.block ?_)
    | (with_reducible refine AW.cond_t rfl ?_)
    | (with_reducible refine AW.cond_f rfl ?_)
    | (with_reducible refine AW.cond_dec rfl (fun hc => ?_) (fun hc => ?_))
    | (with_reducible refine AW.cond rfl (fun hc => ?_) (fun hc => ?_) <;> try simp only [Bool.not_eq_eq_eq_not, Bool.not_true, Bool.not_false, decide_eq_true_eq, decide_eq_false_iff_not] at hc)
    | (with_reducible refine AW.seq ?_)
    | (with_reducible refine AW.skip ?_)
    | (with_reducible refine AW.ret ?_)
    | (with_reducible refine And.intro ?_ ?_)
    | (with_reducible intro hg; first | simp only [eq_false hg, decide_true, decide_false, and_true, true_and, and_false, false_and, not_true_eq_false, not_false_eq_true] | simp only [eq_true hg, decide_true, decide_false, and_true, true_and, and_false, false_and, not_true_eq_false, not_false_eq_true])
    | (with_reducible refine retQ_drop ?_; simp only [vRes, packRes, vLoad, vPart, lk, cond, Nat.reduceBEq, get_loc, getD_zero, getD_succ, true_and, List.length_cons, List.length_nil, Nat.reduceAdd, Nat.reduceLT, Nat.reduceLeDiff, List.take_succ_cons, List.take_zero, List.drop_succ_cons, List.drop_zero, vvar_3, vzero_3, vknd_3, vsn_3, vvar_4, vzero_4, vknd_4, vsn_4, vvar_24, vzero_24, vbld_24, vvar_27, vzero_27, vbld_27, vsl_44, vkn_44, vvar_44, vzero_44])
    )
  all_goals exact ⟨_, _, FinOk.drop hB (.v _), rfl⟩
theorem Fits.of {m : Mz} (h : m.length ≤ maxLen) (hw : ∀ y ∈ m, (ETy.sli .i64).wf y) : Fits 9223372036854775807 m := ⟨h, fun i => by
  by_cases hi : i < m.length
  · have hmem : m.getD i [] ∈ m := by
      simp only [List.getD, List.getElem?_eq_getElem hi, Option.getD_some]; exact List.getElem_mem hi
    exact (hw _ hmem).1
  · have : m.getD i [] = [] := by simp [List.getD, List.getElem?_eq_none (Nat.le_of_not_lt hi)]
    rw [this]; simp⟩
end Go.Proofs.Ytdphlhplcmjepaa

/- Walks: lists read by the reference. -/
import Derived.Test.YtlgagjboijkpgaaDoorRW3
set_option linter.unusedSimpArgs false
set_option linter.unusedVariables false
set_option maxHeartbeats 1000000
namespace Go.Proofs.YtlgagjboijkpgaaDoor
open Go.Lib Go.Eng

theorem ptsS_size (m : UInt8) (s : ByteArray) (i : Nat) : ((ptsS m s).getD i ByteArray.empty).size ≤ s.size := by
  by_cases h : i < (ptsS m s).length
  · have hm : (ptsS m s).getD i ByteArray.empty ∈ ptsS m s := by
      simp only [List.getD, List.getElem?_eq_getElem h, Option.getD_some]; exact List.getElem_mem h
    obtain ⟨q, hq, he⟩ := List.mem_map.1 hm
    rw [← he, bsz, ← data_len]
    exact pts_each m _ q hq
  · simp [List.getD, List.getElem?_eq_none (Nat.le_of_not_lt h)]
theorem ptsS_len (m : UInt8) (s : ByteArray) : (ptsS m s).length ≤ s.size + 1 := by
  have := pts_len m s.data.toList
  rw [data_len] at this
  simpa [ptsS] using this
theorem cut96c_ac (s : ByteArray) (hs : s.size ≤ 1048576) (H : List ABox) : AC Tryd.prog 96 [.v (.string (s)), .v (.int .u8 44)] H (fun r H' => r = .sl 1 H.length 0 (ptsS 44 s).length ∧ H' = H ++ [.row false .str (ptsS 44 s)]) := cut96_ac s hs 44 H
/-- What a reader hands back: the list, new, or nothing. -/
def RdPost (o : Option (List Int)) (H : List ABox) (r : AVal) (H' : List ABox) : Prop := (∃ xs, o = some xs ∧ r = .tup [.sl 1 H.length 0 xs.length, .v (.bool (true))] ∧ H' = H ++ [.row false (.int .i64) xs]) ∨ (o = none ∧ r = .tup [.v (.slice none 0 0), .v (.bool (false))] ∧ H' = H)
theorem rdTo_step {P : List ByteArray} {i : Nat} {l : List Int} {n : Int} (h : rdTo P i = some l) (hn : rd (P.getD i ByteArray.empty) = some n) : rdTo P (i + 1) = some (l ++ [n]) := by
  simp only [rdTo, h, hn, Option.map_some]
theorem rdTo_stop {P : List ByteArray} {i : Nat} {l : List Int} (h : rdTo P i = some l) (hn : rd (P.getD i ByteArray.empty) = none) (hi : i < P.length) : rdTo P P.length = none := by
  have h1 : rdTo P (i + 1) = none := by simp only [rdTo, h, hn, Option.map_none]
  have := rdTo_none h1 (P.length - (i + 1))
  rwa [show i + 1 + (P.length - (i + 1)) = P.length by omega] at this
theorem numbers68_ac (s : ByteArray) (hs : s.size ≤ 1048576) (H : List ABox) : AC Tryd.prog 68 [.v (.string (s))] H (RdPost (rdl s) H) := by
  have hpl := ptsS_len 44 s
  have hps := ptsS_size 44 s
  by_cases hn : s = noneS
  · have hn' : (s = ⟨#[110, 111, 110, 101]⟩) = True := eq_true hn
    have hr : rdl s = some [] := if_pos hn
    refine AC.enter envOk Tryd.func68 rfl (by decide) Tryd.ntmps68 Tryd.results68 (by simp) fun hB => ?_
    repeat' (first
      | (with_reducible refine AW.sreg envOk fun K hK => ?_)
      | (with_reducible refine AW.region envOk fun K hK => ?_)
      | (with_reducible refine vcL_nil ?_)
      | (with_reducible refine vcL_cons fun K' hK' => ?_; simp only [isC, Bool.false_or, Bool.or_true, vAppend, elems, ↓reduceDIte, List.take_length, Nat.le_refl, List.drop_zero, vGuard, undef, Bool.not_eq_eq_eq_not, dstOk, vcOp, vcF, isPure, putS, vcCall, St.ev, St.put, lk, AVal.ofVal, initS, Nat.reduceLT, true_and, and_true, vBin, vUn, vPick, vConv, vPart, vLoad, vStore, vIdxA, vIdx, vFldA, vExt, vLen, vMin, vNil, vAlloc, vBox, vBuild, vBuildSl, vMake, vSlice, bnd, partsA, fillA, decAll, AVal.flat, AVal.cell, cellsOk, setRange, ETy.enc, ETy.dec, ETy.sz, ETy.d, cond, Nat.reduceBEq, Nat.reduceAdd, Int.toNat_natCast, List.length_set, List.length_append, List.length_replicate, List.length_take, Nat.reduceSub, Nat.reduceEqDiff, get_loc, setBox_loc, next_eq, List.length_cons, List.length_nil, List.map_cons, List.map_nil, List.append_nil, List.nil_append, List.cons_append, List.set_cons_zero, List.set_cons_succ, getD_zero, getD_succ, List.getElem?_cons_succ, List.getElem?_cons_zero, List.take_succ_cons, List.take_zero, List.drop_succ_cons, List.drop_zero, List.all_cons, List.all_nil, Bool.and_true, Bool.true_and, Option.bind_some, Option.map_some, Option.map_none, decide_eq_true_eq, decide_eq_false_iff_not, ne_eq, Bool.not_eq_true, Bool.not_eq_false, Decidable.not_not, not_true_eq_false, not_false_eq_true, forall_const, false_implies, Bool.true_eq_false, Bool.false_eq_true, reduceCtorEq, decide_true, decide_false, Bool.not_true, Bool.not_false, if_true, if_false, Nat.zero_add, Nat.lt_irrefl, Value.oneCell', gt_iff_lt, Nat.reduceLeDiff, Nat.lt_add_one, List.length_append, vMakeMap, vLookup, vMapUpd, vMapEnt, vEntSt, vRange, vEntry, KK.of, KK.av, lkRes, entry_last, vvar_1, vzero_1, vvar_2, vzero_2, vknd_2, vsn_2, vvar_3, vzero_3, vknd_3, vsn_3, vvar_4, vzero_4, vknd_4, vsn_4, vvar_9, vzero_9, vknd_9, vsn_9, vsl_27, vkn_27, vvar_27, vzero_27, vsl_84, vkn_84, vvar_84, vzero_84, hn']; try simp (disch := omega) only [wrap64])
      | (with_reducible refine hK' _ ?_; clear hK' K')
      | (with_reducible refine hK _ ?_; clear hK K)
      | (with_reducible refine And.intro (And.intro rfl rfl) ?_)
      | (with_reducible refine And.intro (by omega) ?_)
      | (with_reducible refine And.intro (fun hg => ?_) (fun hg => ?_) <;> first | simp only [eq_false hg, decide_true, decide_false, and_true, true_and, and_false, false_and, not_true_eq_false, not_false_eq_true] | simp only [eq_true hg, decide_true, decide_false, and_true, true_and, and_false, false_and, not_true_eq_false, not_false_eq_true] | simp only [hg, decide_true, decide_false, and_true, true_and, and_false, false_and, not_true_eq_false, not_false_eq_true])
      | (with_reducible refine And.intro rfl (And.intro rfl rfl))
      | (with_reducible refine thenQ_n ?_)
      | (with_reducible refine thenQ_exit ?_)
      | (with_reducible refine thenQ_ret ?_)
      | (with_reducible refine midQ_ret ?_)
      | (with_reducible refine midQ_exit ?_)
      | (with_reducible refine blockQ_same ?_)
      | (with_reducible refine blockQ_ret ?_)
      | (with_reducible refine blockQ_n ?_)
      | (with_reducible refine AW.exit ?_)
      | (with_reducible refine AW.block ?_)
      | (with_reducible refine AW.cond_t rfl ?_)
      | (with_reducible refine AW.cond_f rfl ?_)
      | (with_reducible refine AW.cond_dec rfl (fun hc => ?_) (fun hc => ?_))
      | (with_reducible refine AW.cond rfl (fun hc => ?_) (fun hc => ?_) <;> try simp only [Bool.not_eq_eq_eq_not, Bool.not_true, Bool.not_false, decide_eq_true_eq, decide_eq_false_iff_not] at hc)
      | (with_reducible refine AW.seq ?_)
      | (with_reducible refine AW.skip ?_)
      | (with_reducible refine AW.ret ?_)
      | (with_reducible refine And.intro ?_ ?_)
      | (with_reducible intro hg; first | simp only [eq_false hg, decide_true, decide_false, and_true, true_and, and_false, false_and, not_true_eq_false, not_false_eq_true] | simp only [eq_true hg, decide_true, decide_false, and_true, true_and, and_false, false_and, not_true_eq_false, not_false_eq_true])
      | (with_reducible refine retQ_drop ?_; simp only [vRes, packRes, vLoad, vPart, lk, cond, Nat.reduceBEq, get_loc, getD_zero, getD_succ, true_and, List.length_cons, List.length_nil, Nat.reduceAdd, Nat.reduceLT, Nat.reduceLeDiff, List.take_succ_cons, List.take_zero, List.drop_succ_cons, List.drop_zero, vvar_1, vzero_1, vvar_2, vzero_2, vknd_2, vsn_2, vvar_3, vzero_3, vknd_3, vsn_3, vvar_4, vzero_4, vknd_4, vsn_4, vvar_9, vzero_9, vknd_9, vsn_9, vsl_27, vkn_27, vvar_27, vzero_27, vsl_84, vkn_84, vvar_84, vzero_84])
      )
    exact ⟨_, _, FinOk.keep [0] (L := [.row false (.int .i64) []]) hB (by decide) ⟨RenB.plRow rfl, by simp, trivial⟩ (RenV.tupL (cs' := [.sl 1 (H.length + 0) 0 0, .v (.bool (true))]) ⟨RenV.sl (j := 0) rfl, RenV.low (.v _), trivial⟩), .inl ⟨[], hr, rfl, rfl⟩⟩
  · have hn' : (s = ⟨#[110, 111, 110, 101]⟩) = False := eq_false hn
    have hr : rdl s = if (ptsS 44 s).length ≤ 60 then rdTo (ptsS 44 s) (ptsS 44 s).length else none := if_neg hn
    have hc := cut96c_ac s hs
    generalize ptsS 44 s = P at hpl hps hr hc
    by_cases h60 : P.length ≤ 60
    · rw [if_pos h60] at hr
      refine AC.enter envOk Tryd.func68 rfl (by decide) Tryd.ntmps68 Tryd.results68 (by simp) fun hB => ?_
      repeat' (first
        | (with_reducible refine AW.sreg envOk fun K hK => ?_)
        | (with_reducible refine AW.region envOk fun K hK => ?_)
        | (with_reducible refine vcL_nil ?_)
        | (with_reducible refine vcL_cons fun K' hK' => ?_; simp only [isC, Bool.false_or, Bool.or_true, vAppend, elems, ↓reduceDIte, List.take_length, Nat.le_refl, List.drop_zero, vGuard, undef, Bool.not_eq_eq_eq_not, dstOk, vcOp, vcF, isPure, putS, vcCall, St.ev, St.put, lk, AVal.ofVal, initS, Nat.reduceLT, true_and, and_true, vBin, vUn, vPick, vConv, vPart, vLoad, vStore, vIdxA, vIdx, vFldA, vExt, vLen, vMin, vNil, vAlloc, vBox, vBuild, vBuildSl, vMake, vSlice, bnd, partsA, fillA, decAll, AVal.flat, AVal.cell, cellsOk, setRange, ETy.enc, ETy.dec, ETy.sz, ETy.d, cond, Nat.reduceBEq, Nat.reduceAdd, Int.toNat_natCast, List.length_set, List.length_append, List.length_replicate, List.length_take, Nat.reduceSub, Nat.reduceEqDiff, get_loc, setBox_loc, next_eq, List.length_cons, List.length_nil, List.map_cons, List.map_nil, List.append_nil, List.nil_append, List.cons_append, List.set_cons_zero, List.set_cons_succ, getD_zero, getD_succ, List.getElem?_cons_succ, List.getElem?_cons_zero, List.take_succ_cons, List.take_zero, List.drop_succ_cons, List.drop_zero, List.all_cons, List.all_nil, Bool.and_true, Bool.true_and, Option.bind_some, Option.map_some, Option.map_none, decide_eq_true_eq, decide_eq_false_iff_not, ne_eq, Bool.not_eq_true, Bool.not_eq_false, Decidable.not_not, not_true_eq_false, not_false_eq_true, forall_const, false_implies, Bool.true_eq_false, Bool.false_eq_true, reduceCtorEq, decide_true, decide_false, Bool.not_true, Bool.not_false, if_true, if_false, Nat.zero_add, Nat.lt_irrefl, Value.oneCell', gt_iff_lt, Nat.reduceLeDiff, Nat.lt_add_one, List.length_append, vMakeMap, vLookup, vMapUpd, vMapEnt, vEntSt, vRange, vEntry, KK.of, KK.av, lkRes, entry_last, vvar_1, vzero_1, vvar_2, vzero_2, vknd_2, vsn_2, vvar_3, vzero_3, vknd_3, vsn_3, vvar_4, vzero_4, vknd_4, vsn_4, vvar_9, vzero_9, vknd_9, vsn_9, vsl_27, vkn_27, vvar_27, vzero_27, vsl_84, vkn_84, vvar_84, vzero_84, hn']; try simp (disch := omega) only [wrap64])
        | (with_reducible refine hK' _ ?_; clear hK' K')
        | (with_reducible refine hK _ ?_; clear hK K)
        | ((with_reducible show vCall _ (AVal.fn 96 _) _ _ _); refine vCall_newE (hc _) (by simp only [List.length_append, List.length_cons, List.length_nil, Nat.reduceAdd]; rfl) ?_)
        | (with_reducible refine And.intro (And.intro rfl rfl) ?_)
        | (with_reducible refine And.intro (by omega) ?_)
        | (with_reducible refine And.intro (fun hg => ?_) (fun hg => ?_) <;> first | simp only [eq_false hg, decide_true, decide_false, and_true, true_and, and_false, false_and, not_true_eq_false, not_false_eq_true] | simp only [eq_true hg, decide_true, decide_false, and_true, true_and, and_false, false_and, not_true_eq_false, not_false_eq_true] | simp only [hg, decide_true, decide_false, and_true, true_and, and_false, false_and, not_true_eq_false, not_false_eq_true])
        | (with_reducible refine And.intro rfl (And.intro rfl rfl))
        | (with_reducible refine thenQ_n ?_)
        | (with_reducible refine thenQ_exit ?_)
        | (with_reducible refine thenQ_ret ?_)
        | (with_reducible refine midQ_ret ?_)
        | (with_reducible refine midQ_exit ?_)
        | (with_reducible refine blockQ_same ?_)
        | (with_reducible refine blockQ_ret ?_)
        | (with_reducible refine blockQ_n ?_)
        | (with_reducible refine AW.exit ?_)
        | (with_reducible refine AW.block ?_)
        | (with_reducible refine AW.cond_t rfl ?_)
        | (with_reducible refine AW.cond_f rfl ?_)
        | (with_reducible refine AW.cond_dec rfl (fun hc => ?_) (fun hc => ?_))
        | (with_reducible refine AW.cond rfl (fun hc => ?_) (fun hc => ?_) <;> try simp only [Bool.not_eq_eq_eq_not, Bool.not_true, Bool.not_false, decide_eq_true_eq, decide_eq_false_iff_not] at hc)
        | (with_reducible refine AW.seq ?_)
        | (with_reducible refine AW.skip ?_)
        | (with_reducible refine AW.ret ?_)
        | (with_reducible refine And.intro ?_ ?_)
        | (with_reducible intro hg; first | simp only [eq_false hg, decide_true, decide_false, and_true, true_and, and_false, false_and, not_true_eq_false, not_false_eq_true] | simp only [eq_true hg, decide_true, decide_false, and_true, true_and, and_false, false_and, not_true_eq_false, not_false_eq_true])
        | (with_reducible refine retQ_drop ?_; simp only [vRes, packRes, vLoad, vPart, lk, cond, Nat.reduceBEq, get_loc, getD_zero, getD_succ, true_and, List.length_cons, List.length_nil, Nat.reduceAdd, Nat.reduceLT, Nat.reduceLeDiff, List.take_succ_cons, List.take_zero, List.drop_succ_cons, List.drop_zero, vvar_1, vzero_1, vvar_2, vzero_2, vknd_2, vsn_2, vvar_3, vzero_3, vknd_3, vsn_3, vvar_4, vzero_4, vknd_4, vsn_4, vvar_9, vzero_9, vknd_9, vsn_9, vsl_27, vkn_27, vvar_27, vzero_27, vsl_84, vkn_84, vvar_84, vzero_84])
        )
      · exfalso; omega
      refine AW.loop (fun z : Nat × List Int => (⟨39, [(4, .sl 1 (H.length + 0) 0 (z.2.length)), (5, .sl 1 (H.length + 1) 0 (P.length)), (6, .v (.int .i64 ((z.1 : Int))))], H, [.row false (.int .i64) (z.2), .row false .str P]⟩ : St)) (fun z => z.1 ≤ P.length ∧ rdTo P z.1 = some z.2) (fun z => P.length - z.1) (0, []) ⟨Nat.zero_le _, rfl⟩ (Weak.slots (by repeat' first | exact trivial | exact ⟨rfl, trivial⟩ | refine ⟨rfl, ?_⟩)) ?_
      intro ⟨i, out⟩ ⟨hi, hI⟩
      simp only at hi hI ⊢
      have hol := rdTo_len hI
      have hps' := hps i
      by_cases hlt : i < P.length
      · cases hrd : rd (P.getD i ByteArray.empty) with
        | none =>
          repeat' (first
            | (with_reducible refine AW.sreg envOk fun K hK => ?_)
            | (with_reducible refine AW.region envOk fun K hK => ?_)
            | (with_reducible refine vcL_nil ?_)
            | (with_reducible refine vcL_cons fun K' hK' => ?_; simp only [isC, Bool.false_or, Bool.or_true, vAppend, elems, ↓reduceDIte, List.take_length, Nat.le_refl, List.drop_zero, vGuard, undef, Bool.not_eq_eq_eq_not, dstOk, vcOp, vcF, isPure, putS, vcCall, St.ev, St.put, lk, AVal.ofVal, initS, Nat.reduceLT, true_and, and_true, vBin, vUn, vPick, vConv, vPart, vLoad, vStore, vIdxA, vIdx, vFldA, vExt, vLen, vMin, vNil, vAlloc, vBox, vBuild, vBuildSl, vMake, vSlice, bnd, partsA, fillA, decAll, AVal.flat, AVal.cell, cellsOk, setRange, ETy.enc, ETy.dec, ETy.sz, ETy.d, cond, Nat.reduceBEq, Nat.reduceAdd, Int.toNat_natCast, List.length_set, List.length_append, List.length_replicate, List.length_take, Nat.reduceSub, Nat.reduceEqDiff, get_loc, setBox_loc, next_eq, List.length_cons, List.length_nil, List.map_cons, List.map_nil, List.append_nil, List.nil_append, List.cons_append, List.set_cons_zero, List.set_cons_succ, getD_zero, getD_succ, List.getElem?_cons_succ, List.getElem?_cons_zero, List.take_succ_cons, List.take_zero, List.drop_succ_cons, List.drop_zero, List.all_cons, List.all_nil, Bool.and_true, Bool.true_and, Option.bind_some, Option.map_some, Option.map_none, decide_eq_true_eq, decide_eq_false_iff_not, ne_eq, Bool.not_eq_true, Bool.not_eq_false, Decidable.not_not, not_true_eq_false, not_false_eq_true, forall_const, false_implies, Bool.true_eq_false, Bool.false_eq_true, reduceCtorEq, decide_true, decide_false, Bool.not_true, Bool.not_false, if_true, if_false, Nat.zero_add, Nat.lt_irrefl, Value.oneCell', gt_iff_lt, Nat.reduceLeDiff, Nat.lt_add_one, List.length_append, vMakeMap, vLookup, vMapUpd, vMapEnt, vEntSt, vRange, vEntry, KK.of, KK.av, lkRes, entry_last, vvar_1, vzero_1, vvar_2, vzero_2, vknd_2, vsn_2, vvar_3, vzero_3, vknd_3, vsn_3, vvar_4, vzero_4, vknd_4, vsn_4, vvar_9, vzero_9, vknd_9, vsn_9, vsl_27, vkn_27, vvar_27, vzero_27, vsl_84, vkn_84, vvar_84, vzero_84, hrd, Option.isSome_none]; try simp (disch := omega) only [wrap64])
            | (with_reducible refine hK' _ ?_; clear hK' K')
            | (with_reducible refine hK _ ?_; clear hK K)
            | ((with_reducible show vCall _ (AVal.fn 54 _) _ _ _); refine vCall_pure (value54_ac _ (by omega) _) ?_)
            | ((with_reducible show vcC _ 54 _ _ _); refine vcC_pure (value54_ac _ (by omega) _) ?_)
            | (with_reducible refine And.intro (And.intro rfl rfl) ?_)
            | (with_reducible refine And.intro (by omega) ?_)
            | (with_reducible refine And.intro (fun hg => ?_) (fun hg => ?_) <;> first | simp only [eq_false hg, decide_true, decide_false, and_true, true_and, and_false, false_and, not_true_eq_false, not_false_eq_true] | simp only [eq_true hg, decide_true, decide_false, and_true, true_and, and_false, false_and, not_true_eq_false, not_false_eq_true] | simp only [hg, decide_true, decide_false, and_true, true_and, and_false, false_and, not_true_eq_false, not_false_eq_true])
            | (with_reducible refine And.intro rfl (And.intro rfl rfl))
            | (with_reducible refine thenQ_n ?_)
            | (with_reducible refine thenQ_exit ?_)
            | (with_reducible refine thenQ_ret ?_)
            | (with_reducible refine midQ_ret ?_)
            | (with_reducible refine midQ_exit ?_)
            | (with_reducible refine blockQ_same ?_)
            | (with_reducible refine blockQ_ret ?_)
            | (with_reducible refine blockQ_n ?_)
            | (with_reducible refine AW.exit ?_)
            | (with_reducible refine AW.block ?_)
            | (with_reducible refine AW.cond_t rfl ?_)
            | (with_reducible refine AW.cond_f rfl ?_)
            | (with_reducible refine AW.cond_dec rfl (fun hc => ?_) (fun hc => ?_))
            | (with_reducible refine AW.cond rfl (fun hc => ?_) (fun hc => ?_) <;> try simp only [Bool.not_eq_eq_eq_not, Bool.not_true, Bool.not_false, decide_eq_true_eq, decide_eq_false_iff_not] at hc)
            | (with_reducible refine AW.seq ?_)
            | (with_reducible refine AW.skip ?_)
            | (with_reducible refine AW.ret ?_)
            | (with_reducible refine And.intro ?_ ?_)
            | (with_reducible intro hg; first | simp only [eq_false hg, decide_true, decide_false, and_true, true_and, and_false, false_and, not_true_eq_false, not_false_eq_true] | simp only [eq_true hg, decide_true, decide_false, and_true, true_and, and_false, false_and, not_true_eq_false, not_false_eq_true])
            | (with_reducible refine retQ_drop ?_; simp only [vRes, packRes, vLoad, vPart, lk, cond, Nat.reduceBEq, get_loc, getD_zero, getD_succ, true_and, List.length_cons, List.length_nil, Nat.reduceAdd, Nat.reduceLT, Nat.reduceLeDiff, List.take_succ_cons, List.take_zero, List.drop_succ_cons, List.drop_zero, vvar_1, vzero_1, vvar_2, vzero_2, vknd_2, vsn_2, vvar_3, vzero_3, vknd_3, vsn_3, vvar_4, vzero_4, vknd_4, vsn_4, vvar_9, vzero_9, vknd_9, vsn_9, vsl_27, vkn_27, vvar_27, vzero_27, vsl_84, vkn_84, vvar_84, vzero_84])
            )
          all_goals first
            | (exfalso; omega)
            | exact ⟨_, _, FinOk.drop hB (Plain.tup (plain_cons (.v _) (plain_cons (.v _) plain_nil))).ids, .inr ⟨by rw [hr, rdTo_stop hI hrd hlt], rfl, rfl⟩⟩
            | fail
        | some n =>
          repeat' (first
            | (with_reducible refine AW.sreg envOk fun K hK => ?_)
            | (with_reducible refine AW.region envOk fun K hK => ?_)
            | (with_reducible refine vcL_nil ?_)
            | (with_reducible refine vcL_cons fun K' hK' => ?_; simp only [isC, Bool.false_or, Bool.or_true, vAppend, elems, ↓reduceDIte, List.take_length, Nat.le_refl, List.drop_zero, vGuard, undef, Bool.not_eq_eq_eq_not, dstOk, vcOp, vcF, isPure, putS, vcCall, St.ev, St.put, lk, AVal.ofVal, initS, Nat.reduceLT, true_and, and_true, vBin, vUn, vPick, vConv, vPart, vLoad, vStore, vIdxA, vIdx, vFldA, vExt, vLen, vMin, vNil, vAlloc, vBox, vBuild, vBuildSl, vMake, vSlice, bnd, partsA, fillA, decAll, AVal.flat, AVal.cell, cellsOk, setRange, ETy.enc, ETy.dec, ETy.sz, ETy.d, cond, Nat.reduceBEq, Nat.reduceAdd, Int.toNat_natCast, List.length_set, List.length_append, List.length_replicate, List.length_take, Nat.reduceSub, Nat.reduceEqDiff, get_loc, setBox_loc, next_eq, List.length_cons, List.length_nil, List.map_cons, List.map_nil, List.append_nil, List.nil_append, List.cons_append, List.set_cons_zero, List.set_cons_succ, getD_zero, getD_succ, List.getElem?_cons_succ, List.getElem?_cons_zero, List.take_succ_cons, List.take_zero, List.drop_succ_cons, List.drop_zero, List.all_cons, List.all_nil, Bool.and_true, Bool.true_and, Option.bind_some, Option.map_some, Option.map_none, decide_eq_true_eq, decide_eq_false_iff_not, ne_eq, Bool.not_eq_true, Bool.not_eq_false, Decidable.not_not, not_true_eq_false, not_false_eq_true, forall_const, false_implies, Bool.true_eq_false, Bool.false_eq_true, reduceCtorEq, decide_true, decide_false, Bool.not_true, Bool.not_false, if_true, if_false, Nat.zero_add, Nat.lt_irrefl, Value.oneCell', gt_iff_lt, Nat.reduceLeDiff, Nat.lt_add_one, List.length_append, vMakeMap, vLookup, vMapUpd, vMapEnt, vEntSt, vRange, vEntry, KK.of, KK.av, lkRes, entry_last, vvar_1, vzero_1, vvar_2, vzero_2, vknd_2, vsn_2, vvar_3, vzero_3, vknd_3, vsn_3, vvar_4, vzero_4, vknd_4, vsn_4, vvar_9, vzero_9, vknd_9, vsn_9, vsl_27, vkn_27, vvar_27, vzero_27, vsl_84, vkn_84, vvar_84, vzero_84, hrd, Option.isSome_some, Option.getD_some]; try simp (disch := omega) only [wrap64])
            | (with_reducible refine hK' _ ?_; clear hK' K')
            | (with_reducible refine hK _ ?_; clear hK K)
            | ((with_reducible show vCall _ (AVal.fn 54 _) _ _ _); refine vCall_pure (value54_ac _ (by omega) _) ?_)
            | ((with_reducible show vcC _ 54 _ _ _); refine vcC_pure (value54_ac _ (by omega) _) ?_)
            | (with_reducible refine And.intro (And.intro rfl rfl) ?_)
            | (with_reducible refine And.intro (by omega) ?_)
            | (with_reducible refine And.intro (fun hg => ?_) (fun hg => ?_) <;> first | simp only [eq_false hg, decide_true, decide_false, and_true, true_and, and_false, false_and, not_true_eq_false, not_false_eq_true] | simp only [eq_true hg, decide_true, decide_false, and_true, true_and, and_false, false_and, not_true_eq_false, not_false_eq_true] | simp only [hg, decide_true, decide_false, and_true, true_and, and_false, false_and, not_true_eq_false, not_false_eq_true])
            | (with_reducible refine And.intro rfl (And.intro rfl rfl))
            | (with_reducible refine thenQ_n ?_)
            | (with_reducible refine thenQ_exit ?_)
            | (with_reducible refine thenQ_ret ?_)
            | (with_reducible refine midQ_ret ?_)
            | (with_reducible refine midQ_exit ?_)
            | (with_reducible refine blockQ_same ?_)
            | (with_reducible refine blockQ_ret ?_)
            | (with_reducible refine blockQ_n ?_)
            | (with_reducible refine AW.exit ?_)
            | (with_reducible refine AW.block ?_)
            | (with_reducible refine AW.cond_t rfl ?_)
            | (with_reducible refine AW.cond_f rfl ?_)
            | (with_reducible refine AW.cond_dec rfl (fun hc => ?_) (fun hc => ?_))
            | (with_reducible refine AW.cond rfl (fun hc => ?_) (fun hc => ?_) <;> try simp only [Bool.not_eq_eq_eq_not, Bool.not_true, Bool.not_false, decide_eq_true_eq, decide_eq_false_iff_not] at hc)
            | (with_reducible refine AW.seq ?_)
            | (with_reducible refine AW.skip ?_)
            | (with_reducible refine AW.ret ?_)
            | (with_reducible refine And.intro ?_ ?_)
            | (with_reducible intro hg; first | simp only [eq_false hg, decide_true, decide_false, and_true, true_and, and_false, false_and, not_true_eq_false, not_false_eq_true] | simp only [eq_true hg, decide_true, decide_false, and_true, true_and, and_false, false_and, not_true_eq_false, not_false_eq_true])
            | (with_reducible refine retQ_drop ?_; simp only [vRes, packRes, vLoad, vPart, lk, cond, Nat.reduceBEq, get_loc, getD_zero, getD_succ, true_and, List.length_cons, List.length_nil, Nat.reduceAdd, Nat.reduceLT, Nat.reduceLeDiff, List.take_succ_cons, List.take_zero, List.drop_succ_cons, List.drop_zero, vvar_1, vzero_1, vvar_2, vzero_2, vknd_2, vsn_2, vvar_3, vzero_3, vknd_3, vsn_3, vvar_4, vzero_4, vknd_4, vsn_4, vvar_9, vzero_9, vknd_9, vsn_9, vsl_27, vkn_27, vvar_27, vzero_27, vsl_84, vkn_84, vvar_84, vzero_84])
            )
          all_goals first
            | (exfalso; omega)
            | (refine ⟨(i + 1, out ++ [n]), ⟨by simp only; omega, rdTo_step hI hrd⟩, by simp only; omega, ?_⟩
               simp only
               rw [List.length_append]
               exact (Weak.sel [3, 1] hB (by decide) (by (repeat' (first | exact trivial | exact RenB.plRow rfl | exact RenB.dead _ | exact RenB.map _ _ | exact RenB.iter rfl | refine And.intro ?_ ?_ | (refine RenB.plBox ?_; (repeat' (first | exact Pl.v _ | exact Pl.junk | exact Pl.rd rfl _ | exact pl_nil | refine pl_cons ?_ ?_ | refine Pl.agg ?_ | refine Pl.tup ?_ | refine Pl.rp ?_ | refine Pl.fn ?_)); (first | done | fail)) | refine RenB.of ?_ | exact RenV.ptr rfl | exact RenV.sl rfl | exact RenV.mp rfl | exact RenV.it rfl | (refine RenV.pl ?_; (repeat' (first | exact Pl.v _ | exact Pl.junk | exact Pl.rd rfl _ | exact pl_nil | refine pl_cons ?_ ?_ | refine Pl.agg ?_ | refine Pl.tup ?_ | refine Pl.rp ?_ | refine Pl.fn ?_)); (first | done | fail)) | refine RenV.aggL ?_ | refine RenV.fnL ?_ | exact Nat.lt_of_sub_pos (by decide) | (simp; (first | done | fail)))); (first | done | fail)) (by (repeat' (first | exact trivial | exact RenV.ptr rfl | exact RenV.sl rfl | exact RenV.mp rfl | exact RenV.it rfl | exact RenV.low (.v _) | exact RenV.low (IdsLt.ptr (by assumption)) | (refine RenV.pl ?_; (repeat' (first | exact Pl.v _ | exact Pl.junk | exact Pl.rd rfl _ | exact pl_nil | refine pl_cons ?_ ?_ | refine Pl.agg ?_ | refine Pl.tup ?_ | refine Pl.rp ?_ | refine Pl.fn ?_)); (first | done | fail)) | refine RenV.fnL ?_ | refine RenV.aggL ?_ | refine And.intro ?_ ?_)); (first | done | fail))))
            | fail
      · obtain rfl : i = P.length := by omega
        repeat' (first
          | (with_reducible refine AW.sreg envOk fun K hK => ?_)
          | (with_reducible refine AW.region envOk fun K hK => ?_)
          | (with_reducible refine vcL_nil ?_)
          | (with_reducible refine vcL_cons fun K' hK' => ?_; simp only [isC, Bool.false_or, Bool.or_true, vAppend, elems, ↓reduceDIte, List.take_length, Nat.le_refl, List.drop_zero, vGuard, undef, Bool.not_eq_eq_eq_not, dstOk, vcOp, vcF, isPure, putS, vcCall, St.ev, St.put, lk, AVal.ofVal, initS, Nat.reduceLT, true_and, and_true, vBin, vUn, vPick, vConv, vPart, vLoad, vStore, vIdxA, vIdx, vFldA, vExt, vLen, vMin, vNil, vAlloc, vBox, vBuild, vBuildSl, vMake, vSlice, bnd, partsA, fillA, decAll, AVal.flat, AVal.cell, cellsOk, setRange, ETy.enc, ETy.dec, ETy.sz, ETy.d, cond, Nat.reduceBEq, Nat.reduceAdd, Int.toNat_natCast, List.length_set, List.length_append, List.length_replicate, List.length_take, Nat.reduceSub, Nat.reduceEqDiff, get_loc, setBox_loc, next_eq, List.length_cons, List.length_nil, List.map_cons, List.map_nil, List.append_nil, List.nil_append, List.cons_append, List.set_cons_zero, List.set_cons_succ, getD_zero, getD_succ, List.getElem?_cons_succ, List.getElem?_cons_zero, List.take_succ_cons, List.take_zero, List.drop_succ_cons, List.drop_zero, List.all_cons, List.all_nil, Bool.and_true, Bool.true_and, Option.bind_some, Option.map_some, Option.map_none, decide_eq_true_eq, decide_eq_false_iff_not, ne_eq, Bool.not_eq_true, Bool.not_eq_false, Decidable.not_not, not_true_eq_false, not_false_eq_true, forall_const, false_implies, Bool.true_eq_false, Bool.false_eq_true, reduceCtorEq, decide_true, decide_false, Bool.not_true, Bool.not_false, if_true, if_false, Nat.zero_add, Nat.lt_irrefl, Value.oneCell', gt_iff_lt, Nat.reduceLeDiff, Nat.lt_add_one, List.length_append, vMakeMap, vLookup, vMapUpd, vMapEnt, vEntSt, vRange, vEntry, KK.of, KK.av, lkRes, entry_last, vvar_1, vzero_1, vvar_2, vzero_2, vknd_2, vsn_2, vvar_3, vzero_3, vknd_3, vsn_3, vvar_4, vzero_4, vknd_4, vsn_4, vvar_9, vzero_9, vknd_9, vsn_9, vsl_27, vkn_27, vvar_27, vzero_27, vsl_84, vkn_84, vvar_84, vzero_84]; try simp (disch := omega) only [wrap64])
          | (with_reducible refine hK' _ ?_; clear hK' K')
          | (with_reducible refine hK _ ?_; clear hK K)
          | (with_reducible refine And.intro (And.intro rfl rfl) ?_)
          | (with_reducible refine And.intro (by omega) ?_)
          | (with_reducible refine And.intro (fun hg => ?_) (fun hg => ?_) <;> first | simp only [eq_false hg, decide_true, decide_false, and_true, true_and, and_false, false_and, not_true_eq_false, not_false_eq_true] | simp only [eq_true hg, decide_true, decide_false, and_true, true_and, and_false, false_and, not_true_eq_false, not_false_eq_true] | simp only [hg, decide_true, decide_false, and_true, true_and, and_false, false_and, not_true_eq_false, not_false_eq_true])
          | (with_reducible refine And.intro rfl (And.intro rfl rfl))
          | (with_reducible refine thenQ_n ?_)
          | (with_reducible refine thenQ_exit ?_)
          | (with_reducible refine thenQ_ret ?_)
          | (with_reducible refine midQ_ret ?_)
          | (with_reducible refine midQ_exit ?_)
          | (with_reducible refine blockQ_same ?_)
          | (with_reducible refine blockQ_ret ?_)
          | (with_reducible refine blockQ_n ?_)
          | (with_reducible refine AW.exit ?_)
          | (with_reducible refine AW.block ?_)
          | (with_reducible refine AW.cond_t rfl ?_)
          | (with_reducible refine AW.cond_f rfl ?_)
          | (with_reducible refine AW.cond_dec rfl (fun hc => ?_) (fun hc => ?_))
          | (with_reducible refine AW.cond rfl (fun hc => ?_) (fun hc => ?_) <;> try simp only [Bool.not_eq_eq_eq_not, Bool.not_true, Bool.not_false, decide_eq_true_eq, decide_eq_false_iff_not] at hc)
          | (with_reducible refine AW.seq ?_)
          | (with_reducible refine AW.skip ?_)
          | (with_reducible refine AW.ret ?_)
          | (with_reducible refine And.intro ?_ ?_)
          | (with_reducible intro hg; first | simp only [eq_false hg, decide_true, decide_false, and_true, true_and, and_false, false_and, not_true_eq_false, not_false_eq_true] | simp only [eq_true hg, decide_true, decide_false, and_true, true_and, and_false, false_and, not_true_eq_false, not_false_eq_true])
          | (with_reducible refine retQ_drop ?_; simp only [vRes, packRes, vLoad, vPart, lk, cond, Nat.reduceBEq, get_loc, getD_zero, getD_succ, true_and, List.length_cons, List.length_nil, Nat.reduceAdd, Nat.reduceLT, Nat.reduceLeDiff, List.take_succ_cons, List.take_zero, List.drop_succ_cons, List.drop_zero, vvar_1, vzero_1, vvar_2, vzero_2, vknd_2, vsn_2, vvar_3, vzero_3, vknd_3, vsn_3, vvar_4, vzero_4, vknd_4, vsn_4, vvar_9, vzero_9, vknd_9, vsn_9, vsl_27, vkn_27, vvar_27, vzero_27, vsl_84, vkn_84, vvar_84, vzero_84])
          )
        all_goals first
          | (exfalso; omega)
          | exact ⟨_, _, FinOk.keep [0] (L := [.row false (.int .i64) out]) hB (by decide) ⟨RenB.plRow rfl, by simp, trivial⟩ (RenV.tupL (cs' := [.sl 1 (H.length + 0) 0 out.length, .v (.bool (true))]) ⟨RenV.sl (j := 0) rfl, RenV.low (.v _), trivial⟩), .inl ⟨out, by rw [hr, hI], rfl, rfl⟩⟩
          | fail
    · rw [if_neg h60] at hr
      refine AC.enter envOk Tryd.func68 rfl (by decide) Tryd.ntmps68 Tryd.results68 (by simp) fun hB => ?_
      repeat' (first
        | (with_reducible refine AW.sreg envOk fun K hK => ?_)
        | (with_reducible refine AW.region envOk fun K hK => ?_)
        | (with_reducible refine vcL_nil ?_)
        | (with_reducible refine vcL_cons fun K' hK' => ?_; simp only [isC, Bool.false_or, Bool.or_true, vAppend, elems, ↓reduceDIte, List.take_length, Nat.le_refl, List.drop_zero, vGuard, undef, Bool.not_eq_eq_eq_not, dstOk, vcOp, vcF, isPure, putS, vcCall, St.ev, St.put, lk, AVal.ofVal, initS, Nat.reduceLT, true_and, and_true, vBin, vUn, vPick, vConv, vPart, vLoad, vStore, vIdxA, vIdx, vFldA, vExt, vLen, vMin, vNil, vAlloc, vBox, vBuild, vBuildSl, vMake, vSlice, bnd, partsA, fillA, decAll, AVal.flat, AVal.cell, cellsOk, setRange, ETy.enc, ETy.dec, ETy.sz, ETy.d, cond, Nat.reduceBEq, Nat.reduceAdd, Int.toNat_natCast, List.length_set, List.length_append, List.length_replicate, List.length_take, Nat.reduceSub, Nat.reduceEqDiff, get_loc, setBox_loc, next_eq, List.length_cons, List.length_nil, List.map_cons, List.map_nil, List.append_nil, List.nil_append, List.cons_append, List.set_cons_zero, List.set_cons_succ, getD_zero, getD_succ, List.getElem?_cons_succ, List.getElem?_cons_zero, List.take_succ_cons, List.take_zero, List.drop_succ_cons, List.drop_zero, List.all_cons, List.all_nil, Bool.and_true, Bool.true_and, Option.bind_some, Option.map_some, Option.map_none, decide_eq_true_eq, decide_eq_false_iff_not, ne_eq, Bool.not_eq_true, Bool.not_eq_false, Decidable.not_not, not_true_eq_false, not_false_eq_true, forall_const, false_implies, Bool.true_eq_false, Bool.false_eq_true, reduceCtorEq, decide_true, decide_false, Bool.not_true, Bool.not_false, if_true, if_false, Nat.zero_add, Nat.lt_irrefl, Value.oneCell', gt_iff_lt, Nat.reduceLeDiff, Nat.lt_add_one, List.length_append, vMakeMap, vLookup, vMapUpd, vMapEnt, vEntSt, vRange, vEntry, KK.of, KK.av, lkRes, entry_last, vvar_1, vzero_1, vvar_2, vzero_2, vknd_2, vsn_2, vvar_3, vzero_3, vknd_3, vsn_3, vvar_4, vzero_4, vknd_4, vsn_4, vvar_9, vzero_9, vknd_9, vsn_9, vsl_27, vkn_27, vvar_27, vzero_27, vsl_84, vkn_84, vvar_84, vzero_84, hn']; try simp (disch := omega) only [wrap64])
        | (with_reducible refine hK' _ ?_; clear hK' K')
        | (with_reducible refine hK _ ?_; clear hK K)
        | ((with_reducible show vCall _ (AVal.fn 96 _) _ _ _); refine vCall_newE (hc _) (by simp only [List.length_append, List.length_cons, List.length_nil, Nat.reduceAdd]; rfl) ?_)
        | (with_reducible refine And.intro (And.intro rfl rfl) ?_)
        | (with_reducible refine And.intro (by omega) ?_)
        | (with_reducible refine And.intro (fun hg => ?_) (fun hg => ?_) <;> first | simp only [eq_false hg, decide_true, decide_false, and_true, true_and, and_false, false_and, not_true_eq_false, not_false_eq_true] | simp only [eq_true hg, decide_true, decide_false, and_true, true_and, and_false, false_and, not_true_eq_false, not_false_eq_true] | simp only [hg, decide_true, decide_false, and_true, true_and, and_false, false_and, not_true_eq_false, not_false_eq_true])
        | (with_reducible refine And.intro rfl (And.intro rfl rfl))
        | (with_reducible refine thenQ_n ?_)
        | (with_reducible refine thenQ_exit ?_)
        | (with_reducible refine thenQ_ret ?_)
        | (with_reducible refine midQ_ret ?_)
        | (with_reducible refine midQ_exit ?_)
        | (with_reducible refine blockQ_same ?_)
        | (with_reducible refine blockQ_ret ?_)
        | (with_reducible refine blockQ_n ?_)
        | (with_reducible refine AW.exit ?_)
        | (with_reducible refine AW.block ?_)
        | (with_reducible refine AW.cond_t rfl ?_)
        | (with_reducible refine AW.cond_f rfl ?_)
        | (with_reducible refine AW.cond_dec rfl (fun hc => ?_) (fun hc => ?_))
        | (with_reducible refine AW.cond rfl (fun hc => ?_) (fun hc => ?_) <;> try simp only [Bool.not_eq_eq_eq_not, Bool.not_true, Bool.not_false, decide_eq_true_eq, decide_eq_false_iff_not] at hc)
        | (with_reducible refine AW.seq ?_)
        | (with_reducible refine AW.skip ?_)
        | (with_reducible refine AW.ret ?_)
        | (with_reducible refine And.intro ?_ ?_)
        | (with_reducible intro hg; first | simp only [eq_false hg, decide_true, decide_false, and_true, true_and, and_false, false_and, not_true_eq_false, not_false_eq_true] | simp only [eq_true hg, decide_true, decide_false, and_true, true_and, and_false, false_and, not_true_eq_false, not_false_eq_true])
        | (with_reducible refine retQ_drop ?_; simp only [vRes, packRes, vLoad, vPart, lk, cond, Nat.reduceBEq, get_loc, getD_zero, getD_succ, true_and, List.length_cons, List.length_nil, Nat.reduceAdd, Nat.reduceLT, Nat.reduceLeDiff, List.take_succ_cons, List.take_zero, List.drop_succ_cons, List.drop_zero, vvar_1, vzero_1, vvar_2, vzero_2, vknd_2, vsn_2, vvar_3, vzero_3, vknd_3, vsn_3, vvar_4, vzero_4, vknd_4, vsn_4, vvar_9, vzero_9, vknd_9, vsn_9, vsl_27, vkn_27, vvar_27, vzero_27, vsl_84, vkn_84, vvar_84, vzero_84])
        )
      all_goals first
        | (exfalso; omega)
        | exact ⟨_, _, FinOk.drop hB (Plain.tup (plain_cons (.v _) (plain_cons (.v _) plain_nil))).ids, .inr ⟨hr, rfl, rfl⟩⟩
        | fail
end Go.Proofs.YtlgagjboijkpgaaDoor

/- Texts of this seat that the law stands on, put together. No conditions. -/
import Derived.Test.YtdphlhplcmjepaaQ9
section
set_option linter.unusedSimpArgs false
set_option linter.unusedVariables false
set_option maxHeartbeats 1000000
namespace Go.Proofs.Ytdphlhplcmjepaa
open Go.Eng
/-- The last number of a list; -1 of none. -/
def lastC (l : List Int) : Int := if l = [] then -1 else l.getD (l.length - 1) 0
theorem lastC_snoc (l : List Int) (x : Int) : lastC (l ++ [x]) = x := by
  unfold lastC
  rw [if_neg (by simp)]
  simp [List.getD]
theorem lastC_ne {l : List Int} (h : l ≠ []) : lastC l = l.getD (l.length - 1) 0 := if_neg h
/-- The pieces known when k columns of the i-th net are looked at. -/
def pcs (c : Ch) (i k : Nat) : Mz := piecesTo c i ++ pairsL ((nets c).getD i 0) (colsTo c ((nets c).getD i 0) k)
theorem pcs_zero (c : Ch) (i : Nat) : pcs c i 0 = piecesTo c i := by simp [pcs, colsTo, pairsL]
theorem pcs_all (c : Ch) {i : Nat} (h : i < (nets c).length) : pcs c i c.1.length = piecesTo c (i + 1) := by
  rw [piecesTo_succ c h]; rfl
theorem pcs_skip {c : Ch} {i k : Nat} (h : ¬ HasC c ((nets c).getD i 0) k) : pcs c i (k + 1) = pcs c i k := by
  unfold pcs
  rw [show colsTo c ((nets c).getD i 0) (k + 1) = colsTo c ((nets c).getD i 0) k by rw [colsTo, if_neg h]]
theorem cols_at {c : Ch} {n : Int} {k : Nat} (h : HasC c n k) : colsTo c n (k + 1) = colsTo c n k ++ [(k : Int)] := by rw [colsTo, if_pos h]
theorem cols_skip {c : Ch} {n : Int} {k : Nat} (h : ¬ HasC c n k) : colsTo c n (k + 1) = colsTo c n k := by rw [colsTo, if_neg h]
theorem pcs_first {c : Ch} {i k : Nat} (h : HasC c ((nets c).getD i 0) k) (h0 : colsTo c ((nets c).getD i 0) k = []) : pcs c i (k + 1) = pcs c i k := by
  unfold pcs
  rw [cols_at h, h0]; rfl
theorem pcs_next {c : Ch} {i k : Nat} (h : HasC c ((nets c).getD i 0) k) (h0 : colsTo c ((nets c).getD i 0) k ≠ []) :
    pcs c i (k + 1) = pcs c i k ++ [[(nets c).getD i 0, lastC (colsTo c ((nets c).getD i 0) k), (k : Int)]] := by
  unfold pcs
  rw [cols_at h, pairsL_snoc _ _ _ h0, lastC_ne h0, List.append_assoc]
theorem lastC_rng (c : Ch) (n : Int) (k : Nat) (h : colsTo c n k ≠ []) : 0 ≤ lastC (colsTo c n k) ∧ lastC (colsTo c n k) < k := by
  rw [lastC_ne h]
  have hl := List.length_pos_iff.2 h
  exact colsTo_mem c n k _ (getD_mem' (by omega))
theorem piecesTo_le {c : Ch} (hx : c.1.length ≤ 1000) : ∀ (i : Nat), i ≤ (nets c).length → (piecesTo c i).length ≤ 1000 * i
  | 0, _ => by rw [piecesTo_zero]; simp
  | i + 1, h => by
    have ih := piecesTo_le hx i (by omega)
    have h1 := colsTo_len c ((nets c).getD i 0) c.1.length
    rw [piecesTo_succ c (by omega), List.length_append, pairsL_len]
    unfold cols
    omega
theorem pcs_le {c : Ch} (hx : c.1.length ≤ 1000) {i k : Nat} (hi : i ≤ (nets c).length) : (pcs c i k).length ≤ 1000 * i + k := by
  have h1 := piecesTo_le hx i hi
  have h2 := colsTo_len c ((nets c).getD i 0) k
  unfold pcs
  rw [List.length_append, pairsL_len]
  omega
theorem get_base {N : Nat} {s : List (Nat × AVal)} {H l : List ABox} {kc : Nat} {X : ABox} (h : H[kc]? = some X) : St.get ⟨N, s, H, l⟩ kc = X := by
  unfold St.get
  simp only [List.getD]
  rw [List.getElem?_append_left (List.getElem?_eq_some_iff.1 h).1, h]; rfl
theorem pieces64p_ac (c : Ch) (hx : c.1.length ≤ 1000) (hy : c.2.length = c.1.length) {H : List ABox} {kc : Nat} (hkc : H[kc]? = some (.box false [.rd (.int .i64) c.1, .rd (.int .i64) c.2])) : AC Try.prog 64 [.ptr 1 kc 0 0] H (fun r H' => r = .sl 1 H.length 0 (pieces c).length ∧ H' = H ++ [.row false (.sli .i64) (pieces c)]) := by
  have hn := nets_len c
  have hkl : kc < H.length := (List.getElem?_eq_some_iff.1 hkc).1
  have hgb : ∀ N s l, St.get ⟨N, s, H, l⟩ kc = .box false [.rd (.int .i64) c.1, .rd (.int .i64) c.2] := fun N s l => get_base hkc
  refine AC.enter envOk Try.func64 rfl (by decide) Try.ntmps64 Try.results64 (by simp) fun hB => ?_
  repeat' (first
    | (with_reducible refine AW.sreg envOk fun K hK => ?_)
    | (with_reducible refine AW.region envOk fun K hK => ?_)
    | (with_reducible refine AW.d0reg envOk mixed ?_ ?_ fun K hK => ?_; (first | rfl | exact base_len | exact base_len0); kernel_rfl)
    | (with_reducible refine AW.d0 envOk mixed ?_ ?_ fun K hK => ?_; (first | rfl | exact base_len | exact base_len0); kernel_rfl)
    | (with_reducible refine vcD_nil ?_)
    | (with_reducible refine vcL_nil ?_)
    | (with_reducible (first | refine vcD_cons fun K' hK' => ?_ | refine vcL_cons fun K' hK' => ?_); simp only [isC, Bool.false_or, Bool.or_true, vAppend, elems, ↓reduceDIte, List.take_length, Nat.le_refl, List.drop_zero, vGuard, undef, Bool.not_eq_eq_eq_not, dstOk, vcOp, vcF, isPure, putS, vcCall, St.ev, St.put, lk, AVal.ofVal, initS, Nat.reduceLT, true_and, and_true, vBin, vUn, vPick, vConv, vPart, vLoad, vStore, vIdxA, vIdx, vFldA, vExt, vLen, vMin, vNil, vAlloc, vBox, vBuild, vBuildSl, vMake, vSlice, bnd, partsA, fillA, decAll, AVal.flat, AVal.cell, cellsOk, setRange, ETy.enc, ETy.dec, ETy.sz, ETy.d, cond, Nat.reduceBEq, Nat.reduceAdd, Int.toNat_natCast, List.length_set, List.length_append, List.length_replicate, List.length_take, Nat.reduceSub, Nat.reduceEqDiff, get_loc, setBox_loc, next_eq, List.length_cons, List.length_nil, List.map_cons, List.map_nil, List.append_nil, List.nil_append, List.cons_append, List.set_cons_zero, List.set_cons_succ, getD_zero, getD_succ, List.getElem?_cons_succ, List.getElem?_cons_zero, List.take_succ_cons, List.take_zero, List.drop_succ_cons, List.drop_zero, List.all_cons, List.all_nil, Bool.and_true, Bool.true_and, Option.bind_some, Option.map_some, Option.map_none, decide_eq_true_eq, decide_eq_false_iff_not, ne_eq, Bool.not_eq_true, Bool.not_eq_false, Decidable.not_not, not_true_eq_false, not_false_eq_true, forall_const, false_implies, Bool.true_eq_false, Bool.false_eq_true, reduceCtorEq, decide_true, decide_false, Bool.not_true, Bool.not_false, if_true, if_false, Nat.zero_add, Nat.lt_irrefl, Value.oneCell', gt_iff_lt, Nat.reduceLeDiff, Nat.lt_add_one, List.length_append, vSealSl, vMakeMap, vLookup, vMapUpd, vMapEnt, vEntSt, vRange, vEntry, KK.of, KK.av, lkRes, entry_last, vvar_1, vzero_1, vvar_2, vzero_2, vknd_2, vsn_2, vvar_3, vzero_3, vknd_3, vsn_3, vvar_4, vzero_4, vknd_4, vsn_4, vsl_22, vkn_22, vvar_22, vzero_22, vvar_27, vzero_27, vbld_27, vsl_44, vkn_44, vvar_44, vzero_44, vvar_53, vzero_53, vfld_27_0, vfld_27_1]; try simp (disch := omega) only [wrap64])
    | (with_reducible refine hK' _ ?_; clear hK' K')
    | (with_reducible refine hK _ ?_; clear hK K)
    | ((with_reducible show vCall _ (AVal.fn 57 _) _ _ _); refine vCall_newE (nets57p_ac c (by omega) hy (getC hkc)) (by simp only [List.length_append, List.length_cons, List.length_nil, Nat.reduceAdd]; rfl) ?_)
    | (with_reducible refine And.intro (And.intro rfl rfl) ?_)
    | (with_reducible refine And.intro (by omega) ?_)
    | (with_reducible refine And.intro (fun hg => ?_) (fun hg => ?_) <;> first | simp only [eq_false hg, decide_true, decide_false, and_true, true_and, and_false, false_and, not_true_eq_false, not_false_eq_true] | simp only [eq_true hg, decide_true, decide_false, and_true, true_and, and_false, false_and, not_true_eq_false, not_false_eq_true] | simp only [hg, decide_true, decide_false, and_true, true_and, and_false, false_and, not_true_eq_false, not_false_eq_true])
    | (with_reducible refine And.intro rfl (And.intro rfl rfl))
    | (with_reducible refine thenQ_n ?_)
    | (with_reducible refine thenQ_exit ?_)
    | (with_reducible refine thenQ_ret ?_)
    | (with_reducible refine midQ_ret ?_)
    | (with_reducible refine midQ_exit ?_)
    | (with_reducible refine blockQ_same ?_)
    | (with_reducible refine blockQ_ne (by decide) ?_)
    | (with_reducible refine blockQ_ret ?_)
    | (with_reducible refine blockQ_n ?_)
    | (with_reducible refine AW.exit ?_)
    | (with_reducible refine AW.block ?_)
    | (with_reducible refine AW.cond_t rfl ?_)
    | (with_reducible refine AW.cond_f rfl ?_)
    | (with_reducible refine AW.cond_dec rfl (fun hc => ?_) (fun hc => ?_))
    | (with_reducible refine AW.cond rfl (fun hc => ?_) (fun hc => ?_) <;> try simp only [Bool.not_eq_eq_eq_not, Bool.not_true, Bool.not_false, decide_eq_true_eq, decide_eq_false_iff_not] at hc)
    | (with_reducible refine AW.seq ?_)
    | (with_reducible refine AW.skip ?_)
    | (with_reducible refine AW.ret ?_)
    | (with_reducible refine And.intro ?_ ?_)
    | (with_reducible intro hg; first | simp only [eq_false hg, decide_true, decide_false, and_true, true_and, and_false, false_and, not_true_eq_false, not_false_eq_true] | simp only [eq_true hg, decide_true, decide_false, and_true, true_and, and_false, false_and, not_true_eq_false, not_false_eq_true])
    | (with_reducible refine retQ_drop ?_; simp only [vRes, packRes, vLoad, vPart, lk, cond, Nat.reduceBEq, get_loc, getD_zero, getD_succ, true_and, List.length_cons, List.length_nil, Nat.reduceAdd, Nat.reduceLT, Nat.reduceLeDiff, List.take_succ_cons, List.take_zero, List.drop_succ_cons, List.drop_zero, vvar_1, vzero_1, vvar_2, vzero_2, vknd_2, vsn_2, vvar_3, vzero_3, vknd_3, vsn_3, vvar_4, vzero_4, vknd_4, vsn_4, vsl_22, vkn_22, vvar_22, vzero_22, vvar_27, vzero_27, vbld_27, vsl_44, vkn_44, vvar_44, vzero_44, vvar_53, vzero_53, vfld_27_0, vfld_27_1])
    )
  refine AW.loop (fun i : Nat => (⟨66, [(0, .ptr 1 kc 0 0), (3, .sl 1 (H.length + 0) 0 ((piecesTo c i).length)), (4, .sl 1 (H.length + 1) 0 ((nets c).length)), (5, .v (.int .i64 ((i : Int))))], H, [.row false (.sli .i64) (piecesTo c i), .row false (.int .i64) (nets c)]⟩ : St)) (fun i => i ≤ (nets c).length) (fun i => (nets c).length - i) 0 (Nat.zero_le _) ?_ ?_
  · rw [piecesTo_zero]
    exact (Weak.slots (by repeat' first | exact trivial | exact ⟨rfl, trivial⟩ | refine ⟨rfl, ?_⟩))
  intro i hi
  by_cases hin : i < (nets c).length
  ·
    repeat' (first
      | (with_reducible refine AW.sreg envOk fun K hK => ?_)
      | (with_reducible refine AW.region envOk fun K hK => ?_)
      | (with_reducible refine AW.d0reg envOk mixed ?_ ?_ fun K hK => ?_; (first | rfl | exact base_len | exact base_len0); kernel_rfl)
      | (with_reducible refine AW.d0 envOk mixed ?_ ?_ fun K hK => ?_; (first | rfl | exact base_len | exact base_len0); kernel_rfl)
      | (with_reducible refine vcD_nil ?_)
      | (with_reducible refine vcL_nil ?_)
      | (with_reducible (first | refine vcD_cons fun K' hK' => ?_ | refine vcL_cons fun K' hK' => ?_); simp only [isC, Bool.false_or, Bool.or_true, vAppend, elems, ↓reduceDIte, List.take_length, Nat.le_refl, List.drop_zero, vGuard, undef, Bool.not_eq_eq_eq_not, dstOk, vcOp, vcF, isPure, putS, vcCall, St.ev, St.put, lk, AVal.ofVal, initS, Nat.reduceLT, true_and, and_true, vBin, vUn, vPick, vConv, vPart, vLoad, vStore, vIdxA, vIdx, vFldA, vExt, vLen, vMin, vNil, vAlloc, vBox, vBuild, vBuildSl, vMake, vSlice, bnd, partsA, fillA, decAll, AVal.flat, AVal.cell, cellsOk, setRange, ETy.enc, ETy.dec, ETy.sz, ETy.d, cond, Nat.reduceBEq, Nat.reduceAdd, Int.toNat_natCast, List.length_set, List.length_append, List.length_replicate, List.length_take, Nat.reduceSub, Nat.reduceEqDiff, get_loc, setBox_loc, next_eq, List.length_cons, List.length_nil, List.map_cons, List.map_nil, List.append_nil, List.nil_append, List.cons_append, List.set_cons_zero, List.set_cons_succ, getD_zero, getD_succ, List.getElem?_cons_succ, List.getElem?_cons_zero, List.take_succ_cons, List.take_zero, List.drop_succ_cons, List.drop_zero, List.all_cons, List.all_nil, Bool.and_true, Bool.true_and, Option.bind_some, Option.map_some, Option.map_none, decide_eq_true_eq, decide_eq_false_iff_not, ne_eq, Bool.not_eq_true, Bool.not_eq_false, Decidable.not_not, not_true_eq_false, not_false_eq_true, forall_const, false_implies, Bool.true_eq_false, Bool.false_eq_true, reduceCtorEq, decide_true, decide_false, Bool.not_true, Bool.not_false, if_true, if_false, Nat.zero_add, Nat.lt_irrefl, Value.oneCell', gt_iff_lt, Nat.reduceLeDiff, Nat.lt_add_one, List.length_append, vSealSl, vMakeMap, vLookup, vMapUpd, vMapEnt, vEntSt, vRange, vEntry, KK.of, KK.av, lkRes, entry_last, vvar_1, vzero_1, vvar_2, vzero_2, vknd_2, vsn_2, vvar_3, vzero_3, vknd_3, vsn_3, vvar_4, vzero_4, vknd_4, vsn_4, vsl_22, vkn_22, vvar_22, vzero_22, vvar_27, vzero_27, vbld_27, vsl_44, vkn_44, vvar_44, vzero_44, vvar_53, vzero_53, vfld_27_0, vfld_27_1, hgb]; try simp (disch := omega) only [wrap64])
      | (with_reducible refine hK' _ ?_; clear hK' K')
      | (with_reducible refine hK _ ?_; clear hK K)
      | (with_reducible refine And.intro (And.intro rfl rfl) ?_)
      | (with_reducible refine And.intro (by omega) ?_)
      | (with_reducible refine And.intro (fun hg => ?_) (fun hg => ?_) <;> first | simp only [eq_false hg, decide_true, decide_false, and_true, true_and, and_false, false_and, not_true_eq_false, not_false_eq_true] | simp only [eq_true hg, decide_true, decide_false, and_true, true_and, and_false, false_and, not_true_eq_false, not_false_eq_true] | simp only [hg, decide_true, decide_false, and_true, true_and, and_false, false_and, not_true_eq_false, not_false_eq_true])
      | (with_reducible refine And.intro rfl (And.intro rfl rfl))
      | (with_reducible refine thenQ_n ?_)
      | (with_reducible refine thenQ_exit ?_)
      | (with_reducible refine thenQ_ret ?_)
      | (with_reducible refine midQ_ret ?_)
      | (with_reducible refine midQ_exit ?_)
      | (with_reducible refine blockQ_same ?_)
      | (with_reducible refine blockQ_ne (by decide) ?_)
      | (with_reducible refine blockQ_ret ?_)
      | (with_reducible refine blockQ_n ?_)
      | (with_reducible refine AW.exit ?_)
      | (with_reducible refine AW.block ?_)
      | (with_reducible refine AW.cond_t rfl ?_)
      | (with_reducible refine AW.cond_f rfl ?_)
      | (with_reducible refine AW.cond_dec rfl (fun hc => ?_) (fun hc => ?_))
      | (with_reducible refine AW.cond rfl (fun hc => ?_) (fun hc => ?_) <;> try simp only [Bool.not_eq_eq_eq_not, Bool.not_true, Bool.not_false, decide_eq_true_eq, decide_eq_false_iff_not] at hc)
      | (with_reducible refine AW.seq ?_)
      | (with_reducible refine AW.skip ?_)
      | (with_reducible refine AW.ret ?_)
      | (with_reducible refine And.intro ?_ ?_)
      | (with_reducible intro hg; first | simp only [eq_false hg, decide_true, decide_false, and_true, true_and, and_false, false_and, not_true_eq_false, not_false_eq_true] | simp only [eq_true hg, decide_true, decide_false, and_true, true_and, and_false, false_and, not_true_eq_false, not_false_eq_true])
      | (with_reducible refine retQ_drop ?_; simp only [vRes, packRes, vLoad, vPart, lk, cond, Nat.reduceBEq, get_loc, getD_zero, getD_succ, true_and, List.length_cons, List.length_nil, Nat.reduceAdd, Nat.reduceLT, Nat.reduceLeDiff, List.take_succ_cons, List.take_zero, List.drop_succ_cons, List.drop_zero, vvar_1, vzero_1, vvar_2, vzero_2, vknd_2, vsn_2, vvar_3, vzero_3, vknd_3, vsn_3, vvar_4, vzero_4, vknd_4, vsn_4, vsl_22, vkn_22, vvar_22, vzero_22, vvar_27, vzero_27, vbld_27, vsl_44, vkn_44, vvar_44, vzero_44, vvar_53, vzero_53, vfld_27_0, vfld_27_1])
      )
    · refine AW.loop (fun k : Nat => (⟨66, [(0, .ptr 1 kc 0 0), (3, .sl 1 (H.length + 0) 0 ((pcs c i k).length)), (4, .sl 1 (H.length + 1) 0 ((nets c).length)), (5, .v (.int .i64 ((i : Int)))), (6, .v (.int .i64 (lastC (colsTo c ((nets c).getD i 0) k)))), (7, .v (.int .i64 ((k : Int))))], H, [.row false (.sli .i64) (pcs c i k), .row false (.int .i64) (nets c)]⟩ : St)) (fun k => k ≤ c.1.length) (fun k => c.1.length - k) 0 (Nat.zero_le _) ?_ ?_
      · rw [pcs_zero, show lastC (colsTo c ((nets c).getD i 0) 0) = -1 from rfl]
        exact (Weak.slots (by repeat' first | exact trivial | exact ⟨rfl, trivial⟩ | refine ⟨rfl, ?_⟩))
      intro k hk
      by_cases hkn : k < c.1.length
      · skip
        have hpl := pcs_le hx (i := i) (k := k) (by omega)
        have htk : (pcs c i k).take (pcs c i k).length = pcs c i k := List.take_of_length_le (Nat.le_refl _)
        by_cases hA : c.1.getD k 0 = (nets c).getD i 0
        · have hA' := eq_true hA
          have hH : HasC c ((nets c).getD i 0) k := .inl hA
          by_cases h0 : colsTo c ((nets c).getD i 0) k = []
          · have hl1 : lastC (colsTo c ((nets c).getD i 0) k) = -1 := if_pos h0
            repeat' (first
              | (with_reducible refine AW.sreg envOk fun K hK => ?_)
              | (with_reducible refine AW.region envOk fun K hK => ?_)
              | (with_reducible refine AW.d0reg envOk mixed ?_ ?_ fun K hK => ?_; (first | rfl | exact base_len | exact base_len0); kernel_rfl)
              | (with_reducible refine AW.d0 envOk mixed ?_ ?_ fun K hK => ?_; (first | rfl | exact base_len | exact base_len0); kernel_rfl)
              | (with_reducible refine vcD_nil ?_)
              | (with_reducible refine vcL_nil ?_)
              | (with_reducible (first | refine vcD_cons fun K' hK' => ?_ | refine vcL_cons fun K' hK' => ?_); simp only [isC, Bool.false_or, Bool.or_true, vAppend, elems, ↓reduceDIte, List.take_length, Nat.le_refl, List.drop_zero, vGuard, undef, Bool.not_eq_eq_eq_not, dstOk, vcOp, vcF, isPure, putS, vcCall, St.ev, St.put, lk, AVal.ofVal, initS, Nat.reduceLT, true_and, and_true, vBin, vUn, vPick, vConv, vPart, vLoad, vStore, vIdxA, vIdx, vFldA, vExt, vLen, vMin, vNil, vAlloc, vBox, vBuild, vBuildSl, vMake, vSlice, bnd, partsA, fillA, decAll, AVal.flat, AVal.cell, cellsOk, setRange, ETy.enc, ETy.dec, ETy.sz, ETy.d, cond, Nat.reduceBEq, Nat.reduceAdd, Int.toNat_natCast, List.length_set, List.length_append, List.length_replicate, List.length_take, Nat.reduceSub, Nat.reduceEqDiff, get_loc, setBox_loc, next_eq, List.length_cons, List.length_nil, List.map_cons, List.map_nil, List.append_nil, List.nil_append, List.cons_append, List.set_cons_zero, List.set_cons_succ, getD_zero, getD_succ, List.getElem?_cons_succ, List.getElem?_cons_zero, List.take_succ_cons, List.take_zero, List.drop_succ_cons, List.drop_zero, List.all_cons, List.all_nil, Bool.and_true, Bool.true_and, Option.bind_some, Option.map_some, Option.map_none, decide_eq_true_eq, decide_eq_false_iff_not, ne_eq, Bool.not_eq_true, Bool.not_eq_false, Decidable.not_not, not_true_eq_false, not_false_eq_true, forall_const, false_implies, Bool.true_eq_false, Bool.false_eq_true, reduceCtorEq, decide_true, decide_false, Bool.not_true, Bool.not_false, if_true, if_false, Nat.zero_add, Nat.lt_irrefl, Value.oneCell', gt_iff_lt, Nat.reduceLeDiff, Nat.lt_add_one, List.length_append, vSealSl, vMakeMap, vLookup, vMapUpd, vMapEnt, vEntSt, vRange, vEntry, KK.of, KK.av, lkRes, entry_last, vvar_1, vzero_1, vvar_2, vzero_2, vknd_2, vsn_2, vvar_3, vzero_3, vknd_3, vsn_3, vvar_4, vzero_4, vknd_4, vsn_4, vsl_22, vkn_22, vvar_22, vzero_22, vvar_27, vzero_27, vbld_27, vsl_44, vkn_44, vvar_44, vzero_44, vvar_53, vzero_53, vfld_27_0, vfld_27_1, hgb, hA', hl1, htk]; try simp (disch := omega) only [wrap64])
              | (with_reducible refine hK' _ ?_; clear hK' K')
              | (with_reducible refine hK _ ?_; clear hK K)
              | (with_reducible refine And.intro (And.intro rfl rfl) ?_)
              | (with_reducible refine And.intro (by omega) ?_)
              | (with_reducible refine And.intro (fun hg => ?_) (fun hg => ?_) <;> first | simp only [eq_false hg, decide_true, decide_false, and_true, true_and, and_false, false_and, not_true_eq_false, not_false_eq_true] | simp only [eq_true hg, decide_true, decide_false, and_true, true_and, and_false, false_and, not_true_eq_false, not_false_eq_true] | simp only [hg, decide_true, decide_false, and_true, true_and, and_false, false_and, not_true_eq_false, not_false_eq_true])
              | (with_reducible refine And.intro rfl (And.intro rfl rfl))
              | (with_reducible refine thenQ_n ?_)
              | (with_reducible refine thenQ_exit ?_)
              | (with_reducible refine thenQ_ret ?_)
              | (with_reducible refine midQ_ret ?_)
              | (with_reducible refine midQ_exit ?_)
              | (with_reducible refine blockQ_same ?_)
              | (with_reducible refine blockQ_ne (by decide) ?_)
              | (with_reducible refine blockQ_ret ?_)
              | (with_reducible refine blockQ_n ?_)
              | (with_reducible refine AW.exit ?_)
              | (with_reducible refine AW.block ?_)
              | (with_reducible refine AW.cond_t rfl ?_)
              | (with_reducible refine AW.cond_f rfl ?_)
              | (with_reducible refine AW.cond_dec rfl (fun hc => ?_) (fun hc => ?_))
              | (with_reducible refine AW.cond rfl (fun hc => ?_) (fun hc => ?_) <;> try simp only [Bool.not_eq_eq_eq_not, Bool.not_true, Bool.not_false, decide_eq_true_eq, decide_eq_false_iff_not] at hc)
              | (with_reducible refine AW.seq ?_)
              | (with_reducible refine AW.skip ?_)
              | (with_reducible refine AW.ret ?_)
              | (with_reducible refine And.intro ?_ ?_)
              | (with_reducible intro hg; first | simp only [eq_false hg, decide_true, decide_false, and_true, true_and, and_false, false_and, not_true_eq_false, not_false_eq_true] | simp only [eq_true hg, decide_true, decide_false, and_true, true_and, and_false, false_and, not_true_eq_false, not_false_eq_true])
              | (with_reducible refine retQ_drop ?_; simp only [vRes, packRes, vLoad, vPart, lk, cond, Nat.reduceBEq, get_loc, getD_zero, getD_succ, true_and, List.length_cons, List.length_nil, Nat.reduceAdd, Nat.reduceLT, Nat.reduceLeDiff, List.take_succ_cons, List.take_zero, List.drop_succ_cons, List.drop_zero, vvar_1, vzero_1, vvar_2, vzero_2, vknd_2, vsn_2, vvar_3, vzero_3, vknd_3, vsn_3, vvar_4, vzero_4, vknd_4, vsn_4, vsl_22, vkn_22, vvar_22, vzero_22, vvar_27, vzero_27, vbld_27, vsl_44, vkn_44, vvar_44, vzero_44, vvar_53, vzero_53, vfld_27_0, vfld_27_1])
              )
            all_goals first
              | (exfalso; omega)
              | (refine ⟨k + 1, by omega, by omega, ?_⟩
                 rw [pcs_first hH h0, cols_at hH, lastC_snoc]
                 exact (Weak.slots (by repeat' first | exact trivial | exact ⟨rfl, trivial⟩ | refine ⟨rfl, ?_⟩)))
              | fail
          · have hl := lastC_rng c ((nets c).getD i 0) k h0
            repeat' (first
              | (with_reducible refine AW.sreg envOk fun K hK => ?_)
              | (with_reducible refine AW.region envOk fun K hK => ?_)
              | (with_reducible refine AW.d0reg envOk mixed ?_ ?_ fun K hK => ?_; (first | rfl | exact base_len | exact base_len0); kernel_rfl)
              | (with_reducible refine AW.d0 envOk mixed ?_ ?_ fun K hK => ?_; (first | rfl | exact base_len | exact base_len0); kernel_rfl)
              | (with_reducible refine vcD_nil ?_)
              | (with_reducible refine vcL_nil ?_)
              | (with_reducible (first | refine vcD_cons fun K' hK' => ?_ | refine vcL_cons fun K' hK' => ?_); simp only [isC, Bool.false_or, Bool.or_true, vAppend, elems, ↓reduceDIte, List.take_length, Nat.le_refl, List.drop_zero, vGuard, undef, Bool.not_eq_eq_eq_not, dstOk, vcOp, vcF, isPure, putS, vcCall, St.ev, St.put, lk, AVal.ofVal, initS, Nat.reduceLT, true_and, and_true, vBin, vUn, vPick, vConv, vPart, vLoad, vStore, vIdxA, vIdx, vFldA, vExt, vLen, vMin, vNil, vAlloc, vBox, vBuild, vBuildSl, vMake, vSlice, bnd, partsA, fillA, decAll, AVal.flat, AVal.cell, cellsOk, setRange, ETy.enc, ETy.dec, ETy.sz, ETy.d, cond, Nat.reduceBEq, Nat.reduceAdd, Int.toNat_natCast, List.length_set, List.length_append, List.length_replicate, List.length_take, Nat.reduceSub, Nat.reduceEqDiff, get_loc, setBox_loc, next_eq, List.length_cons, List.length_nil, List.map_cons, List.map_nil, List.append_nil, List.nil_append, List.cons_append, List.set_cons_zero, List.set_cons_succ, getD_zero, getD_succ, List.getElem?_cons_succ, List.getElem?_cons_zero, List.take_succ_cons, List.take_zero, List.drop_succ_cons, List.drop_zero, List.all_cons, List.all_nil, Bool.and_true, Bool.true_and, Option.bind_some, Option.map_some, Option.map_none, decide_eq_true_eq, decide_eq_false_iff_not, ne_eq, Bool.not_eq_true, Bool.not_eq_false, Decidable.not_not, not_true_eq_false, not_false_eq_true, forall_const, false_implies, Bool.true_eq_false, Bool.false_eq_true, reduceCtorEq, decide_true, decide_false, Bool.not_true, Bool.not_false, if_true, if_false, Nat.zero_add, Nat.lt_irrefl, Value.oneCell', gt_iff_lt, Nat.reduceLeDiff, Nat.lt_add_one, List.length_append, vSealSl, vMakeMap, vLookup, vMapUpd, vMapEnt, vEntSt, vRange, vEntry, KK.of, KK.av, lkRes, entry_last, vvar_1, vzero_1, vvar_2, vzero_2, vknd_2, vsn_2, vvar_3, vzero_3, vknd_3, vsn_3, vvar_4, vzero_4, vknd_4, vsn_4, vsl_22, vkn_22, vvar_22, vzero_22, vvar_27, vzero_27, vbld_27, vsl_44, vkn_44, vvar_44, vzero_44, vvar_53, vzero_53, vfld_27_0, vfld_27_1, hgb, hA', htk]; try simp (disch := omega) only [wrap64])
              | (with_reducible refine hK' _ ?_; clear hK' K')
              | (with_reducible refine hK _ ?_; clear hK K)
              | (with_reducible refine And.intro (And.intro rfl rfl) ?_)
              | (with_reducible refine And.intro (by omega) ?_)
              | (with_reducible refine And.intro (fun hg => ?_) (fun hg => ?_) <;> first | simp only [eq_false hg, decide_true, decide_false, and_true, true_and, and_false, false_and, not_true_eq_false, not_false_eq_true] | simp only [eq_true hg, decide_true, decide_false, and_true, true_and, and_false, false_and, not_true_eq_false, not_false_eq_true] | simp only [hg, decide_true, decide_false, and_true, true_and, and_false, false_and, not_true_eq_false, not_false_eq_true])
              | (with_reducible refine And.intro rfl (And.intro rfl rfl))
              | (with_reducible refine thenQ_n ?_)
              | (with_reducible refine thenQ_exit ?_)
              | (with_reducible refine thenQ_ret ?_)
              | (with_reducible refine midQ_ret ?_)
              | (with_reducible refine midQ_exit ?_)
              | (with_reducible refine blockQ_same ?_)
              | (with_reducible refine blockQ_ne (by decide) ?_)
              | (with_reducible refine blockQ_ret ?_)
              | (with_reducible refine blockQ_n ?_)
              | (with_reducible refine AW.exit ?_)
              | (with_reducible refine AW.block ?_)
              | (with_reducible refine AW.cond_t rfl ?_)
              | (with_reducible refine AW.cond_f rfl ?_)
              | (with_reducible refine AW.cond_dec rfl (fun hc => ?_) (fun hc => ?_))
              | (with_reducible refine AW.cond rfl (fun hc => ?_) (fun hc => ?_) <;> try simp only [Bool.not_eq_eq_eq_not, Bool.not_true, Bool.not_false, decide_eq_true_eq, decide_eq_false_iff_not] at hc)
              | (with_reducible refine AW.seq ?_)
              | (with_reducible refine AW.skip ?_)
              | (with_reducible refine AW.ret ?_)
              | (with_reducible refine And.intro ?_ ?_)
              | (with_reducible intro hg; first | simp only [eq_false hg, decide_true, decide_false, and_true, true_and, and_false, false_and, not_true_eq_false, not_false_eq_true] | simp only [eq_true hg, decide_true, decide_false, and_true, true_and, and_false, false_and, not_true_eq_false, not_false_eq_true])
              | (with_reducible refine retQ_drop ?_; simp only [vRes, packRes, vLoad, vPart, lk, cond, Nat.reduceBEq, get_loc, getD_zero, getD_succ, true_and, List.length_cons, List.length_nil, Nat.reduceAdd, Nat.reduceLT, Nat.reduceLeDiff, List.take_succ_cons, List.take_zero, List.drop_succ_cons, List.drop_zero, vvar_1, vzero_1, vvar_2, vzero_2, vknd_2, vsn_2, vvar_3, vzero_3, vknd_3, vsn_3, vvar_4, vzero_4, vknd_4, vsn_4, vsl_22, vkn_22, vvar_22, vzero_22, vvar_27, vzero_27, vbld_27, vsl_44, vkn_44, vvar_44, vzero_44, vvar_53, vzero_53, vfld_27_0, vfld_27_1])
              )
            all_goals first
              | (exfalso; omega)
              | (refine ⟨k + 1, by omega, by omega, ?_⟩
                 rw [pcs_next hH h0, List.length_append, cols_at hH, lastC_snoc]
                 exact (Weak.sel [4, 1] hB (by decide) (by (repeat' (first | exact trivial | exact RenB.plRow rfl | exact RenB.dead _ | exact RenB.map _ _ | exact RenB.iter rfl | refine And.intro ?_ ?_ | (refine RenB.plBox ?_; (repeat' (first | exact Pl.v _ | exact Pl.junk | exact Pl.rd rfl _ | exact pl_nil | refine pl_cons ?_ ?_ | refine Pl.agg ?_ | refine Pl.tup ?_ | refine Pl.rp ?_ | refine Pl.fn ?_)); (first | done | fail)) | refine RenB.of ?_ | exact RenV.ptr rfl | exact RenV.sl rfl | exact RenV.mp rfl | exact RenV.it rfl | (refine RenV.pl ?_; (repeat' (first | exact Pl.v _ | exact Pl.junk | exact Pl.rd rfl _ | exact pl_nil | refine pl_cons ?_ ?_ | refine Pl.agg ?_ | refine Pl.tup ?_ | refine Pl.rp ?_ | refine Pl.fn ?_)); (first | done | fail)) | refine RenV.aggL ?_ | refine RenV.fnL ?_ | exact Nat.lt_of_sub_pos (by decide) | (simp; (first | done | fail)))); (first | done | fail)) (by (repeat' (first | exact trivial | exact RenV.ptr rfl | exact RenV.sl rfl | exact RenV.mp rfl | exact RenV.it rfl | exact RenV.low (.v _) | exact RenV.low (IdsLt.ptr (by assumption)) | (refine RenV.pl ?_; (repeat' (first | exact Pl.v _ | exact Pl.junk | exact Pl.rd rfl _ | exact pl_nil | refine pl_cons ?_ ?_ | refine Pl.agg ?_ | refine Pl.tup ?_ | refine Pl.rp ?_ | refine Pl.fn ?_)); (first | done | fail)) | refine RenV.fnL ?_ | refine RenV.aggL ?_ | refine And.intro ?_ ?_)); (first | done | fail))))
              | fail
        · have hA' := eq_false hA
          by_cases hB2 : c.2.getD k 0 = (nets c).getD i 0
          · have hB' := eq_true hB2
            have hH : HasC c ((nets c).getD i 0) k := .inr hB2
            by_cases h0 : colsTo c ((nets c).getD i 0) k = []
            · have hl1 : lastC (colsTo c ((nets c).getD i 0) k) = -1 := if_pos h0
              repeat' (first
                | (with_reducible refine AW.sreg envOk fun K hK => ?_)
                | (with_reducible refine AW.region envOk fun K hK => ?_)
                | (with_reducible refine AW.d0reg envOk mixed ?_ ?_ fun K hK => ?_; (first | rfl | exact base_len | exact base_len0); kernel_rfl)
                | (with_reducible refine AW.d0 envOk mixed ?_ ?_ fun K hK => ?_; (first | rfl | exact base_len | exact base_len0); kernel_rfl)
                | (with_reducible refine vcD_nil ?_)
                | (with_reducible refine vcL_nil ?_)
                | (with_reducible (first | refine vcD_cons fun K' hK' => ?_ | refine vcL_cons fun K' hK' => ?_); simp only [isC, Bool.false_or, Bool.or_true, vAppend, elems, ↓reduceDIte, List.take_length, Nat.le_refl, List.drop_zero, vGuard, undef, Bool.not_eq_eq_eq_not, dstOk, vcOp, vcF, isPure, putS, vcCall, St.ev, St.put, lk, AVal.ofVal, initS, Nat.reduceLT, true_and, and_true, vBin, vUn, vPick, vConv, vPart, vLoad, vStore, vIdxA, vIdx, vFldA, vExt, vLen, vMin, vNil, vAlloc, vBox, vBuild, vBuildSl, vMake, vSlice, bnd, partsA, fillA, decAll, AVal.flat, AVal.cell, cellsOk, setRange, ETy.enc, ETy.dec, ETy.sz, ETy.d, cond, Nat.reduceBEq, Nat.reduceAdd, Int.toNat_natCast, List.length_set, List.length_append, List.length_replicate, List.length_take, Nat.reduceSub, Nat.reduceEqDiff, get_loc, setBox_loc, next_eq, List.length_cons, List.length_nil, List.map_cons, List.map_nil, List.append_nil, List.nil_append, List.cons_append, List.set_cons_zero, List.set_cons_succ, getD_zero, getD_succ, List.getElem?_cons_succ, List.getElem?_cons_zero, List.take_succ_cons, List.take_zero, List.drop_succ_cons, List.drop_zero, List.all_cons, List.all_nil, Bool.and_true, Bool.true_and, Option.bind_some, Option.map_some, Option.map_none, decide_eq_true_eq, decide_eq_false_iff_not, ne_eq, Bool.not_eq_true, Bool.not_eq_false, Decidable.not_not, not_true_eq_false, not_false_eq_true, forall_const, false_implies, Bool.true_eq_false, Bool.false_eq_true, reduceCtorEq, decide_true, decide_false, Bool.not_true, Bool.not_false, if_true, if_false, Nat.zero_add, Nat.lt_irrefl, Value.oneCell', gt_iff_lt, Nat.reduceLeDiff, Nat.lt_add_one, List.length_append, vSealSl, vMakeMap, vLookup, vMapUpd, vMapEnt, vEntSt, vRange, vEntry, KK.of, KK.av, lkRes, entry_last, vvar_1, vzero_1, vvar_2, vzero_2, vknd_2, vsn_2, vvar_3, vzero_3, vknd_3, vsn_3, vvar_4, vzero_4, vknd_4, vsn_4, vsl_22, vkn_22, vvar_22, vzero_22, vvar_27, vzero_27, vbld_27, vsl_44, vkn_44, vvar_44, vzero_44, vvar_53, vzero_53, vfld_27_0, vfld_27_1, hgb, hA', hB', hl1, htk]; try simp (disch := omega) only [wrap64])
                | (with_reducible refine hK' _ ?_; clear hK' K')
                | (with_reducible refine hK _ ?_; clear hK K)
                | (with_reducible refine And.intro (And.intro rfl rfl) ?_)
                | (with_reducible refine And.intro (by omega) ?_)
                | (with_reducible refine And.intro (fun hg => ?_) (fun hg => ?_) <;> first | simp only [eq_false hg, decide_true, decide_false, and_true, true_and, and_false, false_and, not_true_eq_false, not_false_eq_true] | simp only [eq_true hg, decide_true, decide_false, and_true, true_and, and_false, false_and, not_true_eq_false, not_false_eq_true] | simp only [hg, decide_true, decide_false, and_true, true_and, and_false, false_and, not_true_eq_false, not_false_eq_true])
                | (with_reducible refine And.intro rfl (And.intro rfl rfl))
                | (with_reducible refine thenQ_n ?_)
                | (with_reducible refine thenQ_exit ?_)
                | (with_reducible refine thenQ_ret ?_)
                | (with_reducible refine midQ_ret ?_)
                | (with_reducible refine midQ_exit ?_)
                | (with_reducible refine blockQ_same ?_)
                | (with_reducible refine blockQ_ne (by decide) ?_)
                | (with_reducible refine blockQ_ret ?_)
                | (with_reducible refine blockQ_n ?_)
                | (with_reducible refine AW.exit ?_)
                | (with_reducible refine AW.block ?_)
                | (with_reducible refine AW.cond_t rfl ?_)
                | (with_reducible refine AW.cond_f rfl ?_)
                | (with_reducible refine AW.cond_dec rfl (fun hc => ?_) (fun hc => ?_))
                | (with_reducible refine AW.cond rfl (fun hc => ?_) (fun hc => ?_) <;> try simp only [Bool.not_eq_eq_eq_not, Bool.not_true, Bool.not_false, decide_eq_true_eq, decide_eq_false_iff_not] at hc)
                | (with_reducible refine AW.seq ?_)
                | (with_reducible refine AW.skip ?_)
                | (with_reducible refine AW.ret ?_)
                | (with_reducible refine And.intro ?_ ?_)
                | (with_reducible intro hg; first | simp only [eq_false hg, decide_true, decide_false, and_true, true_and, and_false, false_and, not_true_eq_false, not_false_eq_true] | simp only [eq_true hg, decide_true, decide_false, and_true, true_and, and_false, false_and, not_true_eq_false, not_false_eq_true])
                | (with_reducible refine retQ_drop ?_; simp only [vRes, packRes, vLoad, vPart, lk, cond, Nat.reduceBEq, get_loc, getD_zero, getD_succ, true_and, List.length_cons, List.length_nil, Nat.reduceAdd, Nat.reduceLT, Nat.reduceLeDiff, List.take_succ_cons, List.take_zero, List.drop_succ_cons, List.drop_zero, vvar_1, vzero_1, vvar_2, vzero_2, vknd_2, vsn_2, vvar_3, vzero_3, vknd_3, vsn_3, vvar_4, vzero_4, vknd_4, vsn_4, vsl_22, vkn_22, vvar_22, vzero_22, vvar_27, vzero_27, vbld_27, vsl_44, vkn_44, vvar_44, vzero_44, vvar_53, vzero_53, vfld_27_0, vfld_27_1])
                )
              all_goals first
                | (exfalso; omega)
                | (refine ⟨k + 1, by omega, by omega, ?_⟩
                   rw [pcs_first hH h0, cols_at hH, lastC_snoc]
                   exact (Weak.slots (by repeat' first | exact trivial | exact ⟨rfl, trivial⟩ | refine ⟨rfl, ?_⟩)))
                | fail
            · have hl := lastC_rng c ((nets c).getD i 0) k h0
              repeat' (first
                | (with_reducible refine AW.sreg envOk fun K hK => ?_)
                | (with_reducible refine AW.region envOk fun K hK => ?_)
                | (with_reducible refine AW.d0reg envOk mixed ?_ ?_ fun K hK => ?_; (first | rfl | exact base_len | exact base_len0); kernel_rfl)
                | (with_reducible refine AW.d0 envOk mixed ?_ ?_ fun K hK => ?_; (first | rfl | exact base_len | exact base_len0); kernel_rfl)
                | (with_reducible refine vcD_nil ?_)
                | (with_reducible refine vcL_nil ?_)
                | (with_reducible (first | refine vcD_cons fun K' hK' => ?_ | refine vcL_cons fun K' hK' => ?_); simp only [isC, Bool.false_or, Bool.or_true, vAppend, elems, ↓reduceDIte, List.take_length, Nat.le_refl, List.drop_zero, vGuard, undef, Bool.not_eq_eq_eq_not, dstOk, vcOp, vcF, isPure, putS, vcCall, St.ev, St.put, lk, AVal.ofVal, initS, Nat.reduceLT, true_and, and_true, vBin, vUn, vPick, vConv, vPart, vLoad, vStore, vIdxA, vIdx, vFldA, vExt, vLen, vMin, vNil, vAlloc, vBox, vBuild, vBuildSl, vMake, vSlice, bnd, partsA, fillA, decAll, AVal.flat, AVal.cell, cellsOk, setRange, ETy.enc, ETy.dec, ETy.sz, ETy.d, cond, Nat.reduceBEq, Nat.reduceAdd, Int.toNat_natCast, List.length_set, List.length_append, List.length_replicate, List.length_take, Nat.reduceSub, Nat.reduceEqDiff, get_loc, setBox_loc, next_eq, List.length_cons, List.length_nil, List.map_cons, List.map_nil, List.append_nil, List.nil_append, List.cons_append, List.set_cons_zero, List.set_cons_succ, getD_zero, getD_succ, List.getElem?_cons_succ, List.getElem?_cons_zero, List.take_succ_cons, List.take_zero, List.drop_succ_cons, List.drop_zero, List.all_cons, List.all_nil, Bool.and_true, Bool.true_and, Option.bind_some, Option.map_some, Option.map_none, decide_eq_true_eq, decide_eq_false_iff_not, ne_eq, Bool.not_eq_true, Bool.not_eq_false, Decidable.not_not, not_true_eq_false, not_false_eq_true, forall_const, false_implies, Bool.true_eq_false, Bool.false_eq_true, reduceCtorEq, decide_true, decide_false, Bool.not_true, Bool.not_false, if_true, if_false, Nat.zero_add, Nat.lt_irrefl, Value.oneCell', gt_iff_lt, Nat.reduceLeDiff, Nat.lt_add_one, List.length_append, vSealSl, vMakeMap, vLookup, vMapUpd, vMapEnt, vEntSt, vRange, vEntry, KK.of, KK.av, lkRes, entry_last, vvar_1, vzero_1, vvar_2, vzero_2, vknd_2, vsn_2, vvar_3, vzero_3, vknd_3, vsn_3, vvar_4, vzero_4, vknd_4, vsn_4, vsl_22, vkn_22, vvar_22, vzero_22, vvar_27, vzero_27, vbld_27, vsl_44, vkn_44, vvar_44, vzero_44, vvar_53, vzero_53, vfld_27_0, vfld_27_1, hgb, hA', hB', htk]; try simp (disch := omega) only [wrap64])
                | (with_reducible refine hK' _ ?_; clear hK' K')
                | (with_reducible refine hK _ ?_; clear hK K)
                | (with_reducible refine And.intro (And.intro rfl rfl) ?_)
                | (with_reducible refine And.intro (by omega) ?_)
                | (with_reducible refine And.intro (fun hg => ?_) (fun hg => ?_) <;> first | simp only [eq_false hg, decide_true, decide_false, and_true, true_and, and_false, false_and, not_true_eq_false, not_false_eq_true] | simp only [eq_true hg, decide_true, decide_false, and_true, true_and, and_false, false_and, not_true_eq_false, not_false_eq_true] | simp only [hg, decide_true, decide_false, and_true, true_and, and_false, false_and, not_true_eq_false, not_false_eq_true])
                | (with_reducible refine And.intro rfl (And.intro rfl rfl))
                | (with_reducible refine thenQ_n ?_)
                | (with_reducible refine thenQ_exit ?_)
                | (with_reducible refine thenQ_ret ?_)
                | (with_reducible refine midQ_ret ?_)
                | (with_reducible refine midQ_exit ?_)
                | (with_reducible refine blockQ_same ?_)
                | (with_reducible refine blockQ_ne (by decide) ?_)
                | (with_reducible refine blockQ_ret ?_)
                | (with_reducible refine blockQ_n ?_)
                | (with_reducible refine AW.exit ?_)
                | (with_reducible refine AW.block ?_)
                | (with_reducible refine AW.cond_t rfl ?_)
                | (with_reducible refine AW.cond_f rfl ?_)
                | (with_reducible refine AW.cond_dec rfl (fun hc => ?_) (fun hc => ?_))
                | (with_reducible refine AW.cond rfl (fun hc => ?_) (fun hc => ?_) <;> try simp only [Bool.not_eq_eq_eq_not, Bool.not_true, Bool.not_false, decide_eq_true_eq, decide_eq_false_iff_not] at hc)
                | (with_reducible refine AW.seq ?_)
                | (with_reducible refine AW.skip ?_)
                | (with_reducible refine AW.ret ?_)
                | (with_reducible refine And.intro ?_ ?_)
                | (with_reducible intro hg; first | simp only [eq_false hg, decide_true, decide_false, and_true, true_and, and_false, false_and, not_true_eq_false, not_false_eq_true] | simp only [eq_true hg, decide_true, decide_false, and_true, true_and, and_false, false_and, not_true_eq_false, not_false_eq_true])
                | (with_reducible refine retQ_drop ?_; simp only [vRes, packRes, vLoad, vPart, lk, cond, Nat.reduceBEq, get_loc, getD_zero, getD_succ, true_and, List.length_cons, List.length_nil, Nat.reduceAdd, Nat.reduceLT, Nat.reduceLeDiff, List.take_succ_cons, List.take_zero, List.drop_succ_cons, List.drop_zero, vvar_1, vzero_1, vvar_2, vzero_2, vknd_2, vsn_2, vvar_3, vzero_3, vknd_3, vsn_3, vvar_4, vzero_4, vknd_4, vsn_4, vsl_22, vkn_22, vvar_22, vzero_22, vvar_27, vzero_27, vbld_27, vsl_44, vkn_44, vvar_44, vzero_44, vvar_53, vzero_53, vfld_27_0, vfld_27_1])
                )
              all_goals first
                | (exfalso; omega)
                | (refine ⟨k + 1, by omega, by omega, ?_⟩
                   rw [pcs_next hH h0, List.length_append, cols_at hH, lastC_snoc]
                   exact (Weak.sel [4, 1] hB (by decide) (by (repeat' (first | exact trivial | exact RenB.plRow rfl | exact RenB.dead _ | exact RenB.map _ _ | exact RenB.iter rfl | refine And.intro ?_ ?_ | (refine RenB.plBox ?_; (repeat' (first | exact Pl.v _ | exact Pl.junk | exact Pl.rd rfl _ | exact pl_nil | refine pl_cons ?_ ?_ | refine Pl.agg ?_ | refine Pl.tup ?_ | refine Pl.rp ?_ | refine Pl.fn ?_)); (first | done | fail)) | refine RenB.of ?_ | exact RenV.ptr rfl | exact RenV.sl rfl | exact RenV.mp rfl | exact RenV.it rfl | (refine RenV.pl ?_; (repeat' (first | exact Pl.v _ | exact Pl.junk | exact Pl.rd rfl _ | exact pl_nil | refine pl_cons ?_ ?_ | refine Pl.agg ?_ | refine Pl.tup ?_ | refine Pl.rp ?_ | refine Pl.fn ?_)); (first | done | fail)) | refine RenV.aggL ?_ | refine RenV.fnL ?_ | exact Nat.lt_of_sub_pos (by decide) | (simp; (first | done | fail)))); (first | done | fail)) (by (repeat' (first | exact trivial | exact RenV.ptr rfl | exact RenV.sl rfl | exact RenV.mp rfl | exact RenV.it rfl | exact RenV.low (.v _) | exact RenV.low (IdsLt.ptr (by assumption)) | (refine RenV.pl ?_; (repeat' (first | exact Pl.v _ | exact Pl.junk | exact Pl.rd rfl _ | exact pl_nil | refine pl_cons ?_ ?_ | refine Pl.agg ?_ | refine Pl.tup ?_ | refine Pl.rp ?_ | refine Pl.fn ?_)); (first | done | fail)) | refine RenV.fnL ?_ | refine RenV.aggL ?_ | refine And.intro ?_ ?_)); (first | done | fail))))
                | fail
          · have hB' := eq_false hB2
            have hH : ¬ HasC c ((nets c).getD i 0) k := fun h => h.elim hA hB2
            repeat' (first
              | (with_reducible refine AW.sreg envOk fun K hK => ?_)
              | (with_reducible refine AW.region envOk fun K hK => ?_)
              | (with_reducible refine AW.d0reg envOk mixed ?_ ?_ fun K hK => ?_; (first | rfl | exact base_len | exact base_len0); kernel_rfl)
              | (with_reducible refine AW.d0 envOk mixed ?_ ?_ fun K hK => ?_; (first | rfl | exact base_len | exact base_len0); kernel_rfl)
              | (with_reducible refine vcD_nil ?_)
              | (with_reducible refine vcL_nil ?_)
              | (with_reducible (first | refine vcD_cons fun K' hK' => ?_ | refine vcL_cons fun K' hK' => ?_); simp only [isC, Bool.false_or, Bool.or_true, vAppend, elems, ↓reduceDIte, List.take_length, Nat.le_refl, List.drop_zero, vGuard, undef, Bool.not_eq_eq_eq_not, dstOk, vcOp, vcF, isPure, putS, vcCall, St.ev, St.put, lk, AVal.ofVal, initS, Nat.reduceLT, true_and, and_true, vBin, vUn, vPick, vConv, vPart, vLoad, vStore, vIdxA, vIdx, vFldA, vExt, vLen, vMin, vNil, vAlloc, vBox, vBuild, vBuildSl, vMake, vSlice, bnd, partsA, fillA, decAll, AVal.flat, AVal.cell, cellsOk, setRange, ETy.enc, ETy.dec, ETy.sz, ETy.d, cond, Nat.reduceBEq, Nat.reduceAdd, Int.toNat_natCast, List.length_set, List.length_append, List.length_replicate, List.length_take, Nat.reduceSub, Nat.reduceEqDiff, get_loc, setBox_loc, next_eq, List.length_cons, List.length_nil, List.map_cons, List.map_nil, List.append_nil, List.nil_append, List.cons_append, List.set_cons_zero, List.set_cons_succ, getD_zero, getD_succ, List.getElem?_cons_succ, List.getElem?_cons_zero, List.take_succ_cons, List.take_zero, List.drop_succ_cons, List.drop_zero, List.all_cons, List.all_nil, Bool.and_true, Bool.true_and, Option.bind_some, Option.map_some, Option.map_none, decide_eq_true_eq, decide_eq_false_iff_not, ne_eq, Bool.not_eq_true, Bool.not_eq_false, Decidable.not_not, not_true_eq_false, not_false_eq_true, forall_const, false_implies, Bool.true_eq_false, Bool.false_eq_true, reduceCtorEq, decide_true, decide_false, Bool.not_true, Bool.not_false, if_true, if_false, Nat.zero_add, Nat.lt_irrefl, Value.oneCell', gt_iff_lt, Nat.reduceLeDiff, Nat.lt_add_one, List.length_append, vSealSl, vMakeMap, vLookup, vMapUpd, vMapEnt, vEntSt, vRange, vEntry, KK.of, KK.av, lkRes, entry_last, vvar_1, vzero_1, vvar_2, vzero_2, vknd_2, vsn_2, vvar_3, vzero_3, vknd_3, vsn_3, vvar_4, vzero_4, vknd_4, vsn_4, vsl_22, vkn_22, vvar_22, vzero_22, vvar_27, vzero_27, vbld_27, vsl_44, vkn_44, vvar_44, vzero_44, vvar_53, vzero_53, vfld_27_0, vfld_27_1, hgb, hA', hB']; try simp (disch := omega) only [wrap64])
              | (with_reducible refine hK' _ ?_; clear hK' K')
              | (with_reducible refine hK _ ?_; clear hK K)
              | (with_reducible refine And.intro (And.intro rfl rfl) ?_)
              | (with_reducible refine And.intro (by omega) ?_)
              | (with_reducible refine And.intro (fun hg => ?_) (fun hg => ?_) <;> first | simp only [eq_false hg, decide_true, decide_false, and_true, true_and, and_false, false_and, not_true_eq_false, not_false_eq_true] | simp only [eq_true hg, decide_true, decide_false, and_true, true_and, and_false, false_and, not_true_eq_false, not_false_eq_true] | simp only [hg, decide_true, decide_false, and_true, true_and, and_false, false_and, not_true_eq_false, not_false_eq_true])
              | (with_reducible refine And.intro rfl (And.intro rfl rfl))
              | (with_reducible refine thenQ_n ?_)
              | (with_reducible refine thenQ_exit ?_)
              | (with_reducible refine thenQ_ret ?_)
              | (with_reducible refine midQ_ret ?_)
              | (with_reducible refine midQ_exit ?_)
              | (with_reducible refine blockQ_same ?_)
              | (with_reducible refine blockQ_ne (by decide) ?_)
              | (with_reducible refine blockQ_ret ?_)
              | (with_reducible refine blockQ_n ?_)
              | (with_reducible refine AW.exit ?_)
              | (with_reducible refine AW.block ?_)
              | (with_reducible refine AW.cond_t rfl ?_)
              | (with_reducible refine AW.cond_f rfl ?_)
              | (with_reducible refine AW.cond_dec rfl (fun hc => ?_) (fun hc => ?_))
              | (with_reducible refine AW.cond rfl (fun hc => ?_) (fun hc => ?_) <;> try simp only [Bool.not_eq_eq_eq_not, Bool.not_true, Bool.not_false, decide_eq_true_eq, decide_eq_false_iff_not] at hc)
              | (with_reducible refine AW.seq ?_)
              | (with_reducible refine AW.skip ?_)
              | (with_reducible refine AW.ret ?_)
              | (with_reducible refine And.intro ?_ ?_)
              | (with_reducible intro hg; first | simp only [eq_false hg, decide_true, decide_false, and_true, true_and, and_false, false_and, not_true_eq_false, not_false_eq_true] | simp only [eq_true hg, decide_true, decide_false, and_true, true_and, and_false, false_and, not_true_eq_false, not_false_eq_true])
              | (with_reducible refine retQ_drop ?_; simp only [vRes, packRes, vLoad, vPart, lk, cond, Nat.reduceBEq, get_loc, getD_zero, getD_succ, true_and, List.length_cons, List.length_nil, Nat.reduceAdd, Nat.reduceLT, Nat.reduceLeDiff, List.take_succ_cons, List.take_zero, List.drop_succ_cons, List.drop_zero, vvar_1, vzero_1, vvar_2, vzero_2, vknd_2, vsn_2, vvar_3, vzero_3, vknd_3, vsn_3, vvar_4, vzero_4, vknd_4, vsn_4, vsl_22, vkn_22, vvar_22, vzero_22, vvar_27, vzero_27, vbld_27, vsl_44, vkn_44, vvar_44, vzero_44, vvar_53, vzero_53, vfld_27_0, vfld_27_1])
              )
            all_goals first
              | (exfalso; omega)
              | (refine ⟨k + 1, by omega, by omega, ?_⟩
                 rw [pcs_skip hH, cols_skip hH]
                 exact (Weak.slots (by repeat' first | exact trivial | exact ⟨rfl, trivial⟩ | refine ⟨rfl, ?_⟩)))
              | fail
      · obtain rfl : k = c.1.length := by omega
        rw [pcs_all c hin]
        repeat' (first
          | (with_reducible refine AW.sreg envOk fun K hK => ?_)
          | (with_reducible refine AW.region envOk fun K hK => ?_)
          | (with_reducible refine AW.d0reg envOk mixed ?_ ?_ fun K hK => ?_; (first | rfl | exact base_len | exact base_len0); kernel_rfl)
          | (with_reducible refine AW.d0 envOk mixed ?_ ?_ fun K hK => ?_; (first | rfl | exact base_len | exact base_len0); kernel_rfl)
          | (with_reducible refine vcD_nil ?_)
          | (with_reducible refine vcL_nil ?_)
          | (with_reducible (first | refine vcD_cons fun K' hK' => ?_ | refine vcL_cons fun K' hK' => ?_); simp only [isC, Bool.false_or, Bool.or_true, vAppend, elems, ↓reduceDIte, List.take_length, Nat.le_refl, List.drop_zero, vGuard, undef, Bool.not_eq_eq_eq_not, dstOk, vcOp, vcF, isPure, putS, vcCall, St.ev, St.put, lk, AVal.ofVal, initS, Nat.reduceLT, true_and, and_true, vBin, vUn, vPick, vConv, vPart, vLoad, vStore, vIdxA, vIdx, vFldA, vExt, vLen, vMin, vNil, vAlloc, vBox, vBuild, vBuildSl, vMake, vSlice, bnd, partsA, fillA, decAll, AVal.flat, AVal.cell, cellsOk, setRange, ETy.enc, ETy.dec, ETy.sz, ETy.d, cond, Nat.reduceBEq, Nat.reduceAdd, Int.toNat_natCast, List.length_set, List.length_append, List.length_replicate, List.length_take, Nat.reduceSub, Nat.reduceEqDiff, get_loc, setBox_loc, next_eq, List.length_cons, List.length_nil, List.map_cons, List.map_nil, List.append_nil, List.nil_append, List.cons_append, List.set_cons_zero, List.set_cons_succ, getD_zero, getD_succ, List.getElem?_cons_succ, List.getElem?_cons_zero, List.take_succ_cons, List.take_zero, List.drop_succ_cons, List.drop_zero, List.all_cons, List.all_nil, Bool.and_true, Bool.true_and, Option.bind_some, Option.map_some, Option.map_none, decide_eq_true_eq, decide_eq_false_iff_not, ne_eq, Bool.not_eq_true, Bool.not_eq_false, Decidable.not_not, not_true_eq_false, not_false_eq_true, forall_const, false_implies, Bool.true_eq_false, Bool.false_eq_true, reduceCtorEq, decide_true, decide_false, Bool.not_true, Bool.not_false, if_true, if_false, Nat.zero_add, Nat.lt_irrefl, Value.oneCell', gt_iff_lt, Nat.reduceLeDiff, Nat.lt_add_one, List.length_append, vSealSl, vMakeMap, vLookup, vMapUpd, vMapEnt, vEntSt, vRange, vEntry, KK.of, KK.av, lkRes, entry_last, vvar_1, vzero_1, vvar_2, vzero_2, vknd_2, vsn_2, vvar_3, vzero_3, vknd_3, vsn_3, vvar_4, vzero_4, vknd_4, vsn_4, vsl_22, vkn_22, vvar_22, vzero_22, vvar_27, vzero_27, vbld_27, vsl_44, vkn_44, vvar_44, vzero_44, vvar_53, vzero_53, vfld_27_0, vfld_27_1, hgb]; try simp (disch := omega) only [wrap64])
          | (with_reducible refine hK' _ ?_; clear hK' K')
          | (with_reducible refine hK _ ?_; clear hK K)
          | (with_reducible refine And.intro (And.intro rfl rfl) ?_)
          | (with_reducible refine And.intro (by omega) ?_)
          | (with_reducible refine And.intro (fun hg => ?_) (fun hg => ?_) <;> first | simp only [eq_false hg, decide_true, decide_false, and_true, true_and, and_false, false_and, not_true_eq_false, not_false_eq_true] | simp only [eq_true hg, decide_true, decide_false, and_true, true_and, and_false, false_and, not_true_eq_false, not_false_eq_true] | simp only [hg, decide_true, decide_false, and_true, true_and, and_false, false_and, not_true_eq_false, not_false_eq_true])
          | (with_reducible refine And.intro rfl (And.intro rfl rfl))
          | (with_reducible refine thenQ_n ?_)
          | (with_reducible refine thenQ_exit ?_)
          | (with_reducible refine thenQ_ret ?_)
          | (with_reducible refine midQ_ret ?_)
          | (with_reducible refine midQ_exit ?_)
          | (with_reducible refine blockQ_same ?_)
          | (with_reducible refine blockQ_ne (by decide) ?_)
          | (with_reducible refine blockQ_ret ?_)
          | (with_reducible refine blockQ_n ?_)
          | (with_reducible refine AW.exit ?_)
          | (with_reducible refine AW.block ?_)
          | (with_reducible refine AW.cond_t rfl ?_)
          | (with_reducible refine AW.cond_f rfl ?_)
          | (with_reducible refine AW.cond_dec rfl (fun hc => ?_) (fun hc => ?_))
          | (with_reducible refine AW.cond rfl (fun hc => ?_) (fun hc => ?_) <;> try simp only [Bool.not_eq_eq_eq_not, Bool.not_true, Bool.not_false, decide_eq_true_eq, decide_eq_false_iff_not] at hc)
          | (with_reducible refine AW.seq ?_)
          | (with_reducible refine AW.skip ?_)
          | (with_reducible refine AW.ret ?_)
          | (with_reducible refine And.intro ?_ ?_)
          | (with_reducible intro hg; first | simp only [eq_false hg, decide_true, decide_false, and_true, true_and, and_false, false_and, not_true_eq_false, not_false_eq_true] | simp only [eq_true hg, decide_true, decide_false, and_true, true_and, and_false, false_and, not_true_eq_false, not_false_eq_true])
          | (with_reducible refine retQ_drop ?_; simp only [vRes, packRes, vLoad, vPart, lk, cond, Nat.reduceBEq, get_loc, getD_zero, getD_succ, true_and, List.length_cons, List.length_nil, Nat.reduceAdd, Nat.reduceLT, Nat.reduceLeDiff, List.take_succ_cons, List.take_zero, List.drop_succ_cons, List.drop_zero, vvar_1, vzero_1, vvar_2, vzero_2, vknd_2, vsn_2, vvar_3, vzero_3, vknd_3, vsn_3, vvar_4, vzero_4, vknd_4, vsn_4, vsl_22, vkn_22, vvar_22, vzero_22, vvar_27, vzero_27, vbld_27, vsl_44, vkn_44, vvar_44, vzero_44, vvar_53, vzero_53, vfld_27_0, vfld_27_1])
          )
        all_goals first
          | (exfalso; omega)
          | exact ⟨i + 1, by omega, by omega, (Weak.slots (by repeat' first | exact trivial | exact ⟨rfl, trivial⟩ | refine ⟨rfl, ?_⟩))⟩
          | fail
    · exfalso; omega
  · obtain rfl : i = (nets c).length := by omega
    repeat' (first
      | (with_reducible refine AW.sreg envOk fun K hK => ?_)
      | (with_reducible refine AW.region envOk fun K hK => ?_)
      | (with_reducible refine AW.d0reg envOk mixed ?_ ?_ fun K hK => ?_; (first | rfl | exact base_len | exact base_len0); kernel_rfl)
      | (with_reducible refine AW.d0 envOk mixed ?_ ?_ fun K hK => ?_; (first | rfl | exact base_len | exact base_len0); kernel_rfl)
      | (with_reducible refine vcD_nil ?_)
      | (with_reducible refine vcL_nil ?_)
      | (with_reducible (first | refine vcD_cons fun K' hK' => ?_ | refine vcL_cons fun K' hK' => ?_); simp only [isC, Bool.false_or, Bool.or_true, vAppend, elems, ↓reduceDIte, List.take_length, Nat.le_refl, List.drop_zero, vGuard, undef, Bool.not_eq_eq_eq_not, dstOk, vcOp, vcF, isPure, putS, vcCall, St.ev, St.put, lk, AVal.ofVal, initS, Nat.reduceLT, true_and, and_true, vBin, vUn, vPick, vConv, vPart, vLoad, vStore, vIdxA, vIdx, vFldA, vExt, vLen, vMin, vNil, vAlloc, vBox, vBuild, vBuildSl, vMake, vSlice, bnd, partsA, fillA, decAll, AVal.flat, AVal.cell, cellsOk, setRange, ETy.enc, ETy.dec, ETy.sz, ETy.d, cond, Nat.reduceBEq, Nat.reduceAdd, Int.toNat_natCast, List.length_set, List.length_append, List.length_replicate, List.length_take, Nat.reduceSub, Nat.reduceEqDiff, get_loc, setBox_loc, next_eq, List.length_cons, List.length_nil, List.map_cons, List.map_nil, List.append_nil, List.nil_append, List.cons_append, List.set_cons_zero, List.set_cons_succ, getD_zero, getD_succ, List.getElem?_cons_succ, List.getElem?_cons_zero, List.take_succ_cons, List.take_zero, List.drop_succ_cons, List.drop_zero, List.all_cons, List.all_nil, Bool.and_true, Bool.true_and, Option.bind_some, Option.map_some, Option.map_none, decide_eq_true_eq, decide_eq_false_iff_not, ne_eq, Bool.not_eq_true, Bool.not_eq_false, Decidable.not_not, not_true_eq_false, not_false_eq_true, forall_const, false_implies, Bool.true_eq_false, Bool.false_eq_true, reduceCtorEq, decide_true, decide_false, Bool.not_true, Bool.not_false, if_true, if_false, Nat.zero_add, Nat.lt_irrefl, Value.oneCell', gt_iff_lt, Nat.reduceLeDiff, Nat.lt_add_one, List.length_append, vSealSl, vMakeMap, vLookup, vMapUpd, vMapEnt, vEntSt, vRange, vEntry, KK.of, KK.av, lkRes, entry_last, vvar_1, vzero_1, vvar_2, vzero_2, vknd_2, vsn_2, vvar_3, vzero_3, vknd_3, vsn_3, vvar_4, vzero_4, vknd_4, vsn_4, vsl_22, vkn_22, vvar_22, vzero_22, vvar_27, vzero_27, vbld_27, vsl_44, vkn_44, vvar_44, vzero_44, vvar_53, vzero_53, vfld_27_0, vfld_27_1, hgb]; try simp (disch := omega) only [wrap64])
      | (with_reducible refine hK' _ ?_; clear hK' K')
      | (with_reducible refine hK _ ?_; clear hK K)
      | (with_reducible refine And.intro (And.intro rfl rfl) ?_)
      | (with_reducible refine And.intro (by omega) ?_)
      | (with_reducible refine And.intro (fun hg => ?_) (fun hg => ?_) <;> first | simp only [eq_false hg, decide_true, decide_false, and_true, true_and, and_false, false_and, not_true_eq_false, not_false_eq_true] | simp only [eq_true hg, decide_true, decide_false, and_true, true_and, and_false, false_and, not_true_eq_false, not_false_eq_true] | simp only [hg, decide_true, decide_false, and_true, true_and, and_false, false_and, not_true_eq_false, not_false_eq_true])
      | (with_reducible refine And.intro rfl (And.intro rfl rfl))
      | (with_reducible refine thenQ_n ?_)
      | (with_reducible refine thenQ_exit ?_)
      | (with_reducible refine thenQ_ret ?_)
      | (with_reducible refine midQ_ret ?_)
      | (with_reducible refine midQ_exit ?_)
      | (with_reducible refine blockQ_same ?_)
      | (with_reducible refine blockQ_ne (by decide) ?_)
      | (with_reducible refine blockQ_ret ?_)
      | (with_reducible refine blockQ_n ?_)
      | (with_reducible refine AW.exit ?_)
      | (with_reducible refine AW.block ?_)
      | (with_reducible refine AW.cond_t rfl ?_)
      | (with_reducible refine AW.cond_f rfl ?_)
      | (with_reducible refine AW.cond_dec rfl (fun hc => ?_) (fun hc => ?_))
      | (with_reducible refine AW.cond rfl (fun hc => ?_) (fun hc => ?_) <;> try simp only [Bool.not_eq_eq_eq_not, Bool.not_true, Bool.not_false, decide_eq_true_eq, decide_eq_false_iff_not] at hc)
      | (with_reducible refine AW.seq ?_)
      | (with_reducible refine AW.skip ?_)
      | (with_reducible refine AW.ret ?_)
      | (with_reducible refine And.intro ?_ ?_)
      | (with_reducible intro hg; first | simp only [eq_false hg, decide_true, decide_false, and_true, true_and, and_false, false_and, not_true_eq_false, not_false_eq_true] | simp only [eq_true hg, decide_true, decide_false, and_true, true_and, and_false, false_and, not_true_eq_false, not_false_eq_true])
      | (with_reducible refine retQ_drop ?_; simp only [vRes, packRes, vLoad, vPart, lk, cond, Nat.reduceBEq, get_loc, getD_zero, getD_succ, true_and, List.length_cons, List.length_nil, Nat.reduceAdd, Nat.reduceLT, Nat.reduceLeDiff, List.take_succ_cons, List.take_zero, List.drop_succ_cons, List.drop_zero, vvar_1, vzero_1, vvar_2, vzero_2, vknd_2, vsn_2, vvar_3, vzero_3, vknd_3, vsn_3, vvar_4, vzero_4, vknd_4, vsn_4, vsl_22, vkn_22, vvar_22, vzero_22, vvar_27, vzero_27, vbld_27, vsl_44, vkn_44, vvar_44, vzero_44, vvar_53, vzero_53, vfld_27_0, vfld_27_1])
      )
    all_goals first
      | (exfalso; omega)
      | exact ⟨_, _, FinOk.keep [0] (L := [.row false (.sli .i64) (pieces c)]) hB (by decide) ⟨RenB.plRow rfl, by simp, trivial⟩ (RenV.sl (j := 0) rfl), rfl, rfl⟩
      | fail
/-- The pieces known when the i-th net's first k columns are paired. -/
def pks (c : Ch) (i k : Nat) : Mz := piecesTo c i ++ pairsL ((nets c).getD i 0) ((cols c ((nets c).getD i 0)).take k)
theorem pks_one {c : Ch} {i : Nat} : pks c i 1 = piecesTo c i := by
  unfold pks
  match cols c ((nets c).getD i 0) with
  | [] => simp [pairsL]
  | a :: r => simp [pairsL]
theorem pks_all {c : Ch} {i : Nat} (h : i < (nets c).length) : pks c i (cols c ((nets c).getD i 0)).length = piecesTo c (i + 1) := by
  unfold pks
  rw [List.take_length, piecesTo_succ c h]
theorem pks_next {c : Ch} {i k : Nat} (h0 : 1 ≤ k) (h : k < (cols c ((nets c).getD i 0)).length) :
    pks c i (k + 1) = pks c i k ++ [[(nets c).getD i 0, (cols c ((nets c).getD i 0)).getD (k - 1) 0, (cols c ((nets c).getD i 0)).getD k 0]] := by
  unfold pks
  have hne : (cols c ((nets c).getD i 0)).take k ≠ [] := fun e => by
    have := congrArg List.length e
    simp only [List.length_take, List.length_nil] at this; omega
  have hl : ((cols c ((nets c).getD i 0)).take k).length = k := by rw [List.length_take]; omega
  rw [take_snoc h, pairsL_snoc _ _ _ hne, hl, List.append_assoc]
  have e : ((cols c ((nets c).getD i 0)).take k).getD (k - 1) 0 = (cols c ((nets c).getD i 0)).getD (k - 1) 0 := by
    simp [List.getD, show k - 1 < k by omega]
  rw [e]
theorem pks_le {c : Ch} (hx : c.1.length ≤ 1000) {i k : Nat} (hi : i ≤ (nets c).length) : (pks c i k).length ≤ 1000 * i + 1000 := by
  have h1 := piecesTo_le hx i hi
  have h2 := colsTo_len c ((nets c).getD i 0) c.1.length
  unfold pks
  rw [List.length_append, pairsL_len, List.length_take]
  unfold cols
  omega
end Go.Proofs.Ytdphlhplcmjepaa
end
section
set_option linter.unusedSimpArgs false
set_option linter.unusedVariables false
namespace Go.Eng
variable {P : Program} {E : Env}
/-- The same boxes, parted otherwise. -/
theorem Weak.rebase {n N : Nat} {s : List (Nat × AVal)} {b l b' l' : List ABox} (h : b ++ l = b' ++ l') (hn : n ≤ b.length → n ≤ b'.length) : Weak n ⟨N, s, b, l⟩ ⟨N, s, b', l'⟩ := fun c a w hr =>
  ⟨c, .refl n c, hn hr.le, hr.rel.defers, hr.rel.size, hr.rel.slots, by
    show RelH c (b' ++ l') w
    rw [← h]; exact hr.rel.heap, rfl⟩
/-- The first of the state's own boxes is put below. -/
theorem Weak.grow {n N : Nat} {s : List (Nat × AVal)} {b l : List ABox} {X : ABox} : Weak n ⟨N, s, b, X :: l⟩ ⟨N, s, b ++ [X], l⟩ :=
  Weak.rebase (by simp) (fun h => by rw [List.length_append]; omega)
theorem FinOk.same {n N : Nat} {s : List (Nat × AVal)} {b l : List ABox} {r : AVal} : FinOk n ⟨N, s, b, l⟩ r r (b ++ l) := fun c v w hn hv hh => ⟨c, .refl _ c, hv, hh⟩
theorem BoxLt.mono {n m : Nat} {X : ABox} (h : BoxLt n X) (hm : n ≤ m) : BoxLt m X := by
  cases X with
  | dead => trivial
  | box ro cs => exact fun i hi => (h i hi).mono hm
  | row ro e xs => exact fun i j hi hj => (h i j hi hj).mono hm
  | map kk es => trivial
  | iter m' a b => exact Nat.lt_of_lt_of_le h hm
  | tab g o => trivial
theorem BaseLt.mono {n m : Nat} {H : List ABox} (h : BaseLt n H) (hm : n ≤ m) : BaseLt m H := fun k hk => (h k hk).mono hm
theorem BaseLt.app {n : Nat} {H L : List ABox} (h : BaseLt n H) (hL : ∀ X ∈ L, BoxLt n X) : BaseLt n (H ++ L) := by
  intro k hk
  simp only [List.getD]
  by_cases g : k < H.length
  · rw [List.getElem?_append_left g]; exact h k g
  · have hk' : k - H.length < L.length := by simp at hk; omega
    rw [List.getElem?_append_right (by omega), List.getElem?_eq_getElem hk']
    exact hL _ (List.getElem_mem hk')
theorem boxLt_plain {n : Nat} {ro : Bool} {e : ETy} (h : e.plain = true) (xs : List e.T) : BoxLt n (.row ro e xs) := fun i j hi hj => ETy.enc_ids e h _ j hj
/-- Lists of numbers, each in a box of its own. -/
def rowsB (xs : List (List Int)) : List ABox := xs.map fun x => .row false (.int .i64) x
theorem rowsB_len (xs : List (List Int)) : (rowsB xs).length = xs.length := by simp [rowsB]
theorem rowsB_snoc (xs : List (List Int)) (x : List Int) : rowsB (xs ++ [x]) = rowsB xs ++ [.row false (.int .i64) x] := by simp [rowsB]
theorem rowsB_nil : rowsB [] = [] := rfl
theorem rowsB_get {xs : List (List Int)} {i : Nat} (h : i < xs.length) : (rowsB xs)[i]? = some (.row false (.int .i64) (xs.getD i [])) := by
  simp [rowsB, List.getD, h]
theorem rowsB_set {xs : List (List Int)} {i : Nat} {x : List Int} : (rowsB xs).set i (.row false (.int .i64) x) = rowsB (xs.set i x) := by
  simp [rowsB, List.map_set]
theorem rowsB_lt (n : Nat) (xs : List (List Int)) : ∀ X ∈ rowsB xs, BoxLt n X := fun X hX => by
  obtain ⟨x, _, rfl⟩ := List.mem_map.1 hX
  exact boxLt_plain rfl x
theorem BaseLt.rows {H : List ABox} (h : BaseLt H.length H) (xs : List (List Int)) : BaseLt (H ++ rowsB xs).length (H ++ rowsB xs) :=
  (h.mono (by simp)).app (rowsB_lt _ xs)
theorem nordW_rows (xs : List (List Int)) : ∀ X ∈ rowsB xs, NoRdW X := fun X hX => by
  obtain ⟨x, _, rfl⟩ := List.mem_map.1 hX
  exact ⟨rfl, rfl⟩
theorem nordW_app {a b : List ABox} (h : ∀ Z ∈ a, NoRdW Z) (k : ∀ Z ∈ b, NoRdW Z) : ∀ Z ∈ a ++ b, NoRdW Z := fun Z hZ => by
  rcases List.mem_append.1 hZ with hZ | hZ
  · exact h Z hZ
  · exact k Z hZ
/-- Their numbers, from g on, and their lengths. -/
def refs : Nat → List (List Int) → List (Option (Nat × Nat))
  | _, [] => []
  | g, x :: r => some (g, x.length) :: refs (g + 1) r
theorem refs_len : ∀ (g : Nat) (xs : List (List Int)), (refs g xs).length = xs.length
  | _, [] => rfl
  | g, x :: r => by simp [refs, refs_len (g + 1) r]
theorem refs_get : ∀ {g : Nat} {xs : List (List Int)} {i : Nat}, i < xs.length → (refs g xs).getD i none = some (g + i, (xs.getD i []).length)
  | g, [], i, h => by simp at h
  | g, x :: r, 0, h => rfl
  | g, x :: r, i + 1, h => by
    have := refs_get (g := g + 1) (xs := r) (i := i) (by simpa using h)
    show (refs (g + 1) r).getD i none = _
    rw [this]
    show some (g + 1 + i, (r.getD i []).length) = some (g + (i + 1), (r.getD i []).length)
    rw [show g + 1 + i = g + (i + 1) by omega]
theorem refs_snoc : ∀ (g : Nat) (xs : List (List Int)) (x : List Int), refs g (xs ++ [x]) = refs g xs ++ [some (g + xs.length, x.length)]
  | g, [], x => rfl
  | g, y :: r, x => by
    show some (g, y.length) :: refs (g + 1) (r ++ [x]) = some (g, y.length) :: (refs (g + 1) r ++ [some (g + (r.length + 1), x.length)])
    rw [refs_snoc (g + 1) r x, show g + 1 + r.length = g + (r.length + 1) by omega]
/-- All numbers in it are below m. -/
def OwnLt (m : Nat) (os : List (Option (Nat × Nat))) : Prop := ∀ i, i < os.length → ∀ p, os.getD i none = some p → p.1 < m
theorem refs_lt {g m : Nat} {xs : List (List Int)} (h : g + xs.length ≤ m) : OwnLt m (refs g xs) := fun i hi p hp => by
  rw [refs_len] at hi
  rw [refs_get hi] at hp
  cases hp
  show g + i < m
  omega
theorem own_ids {m : Nat} {k : IntKind} {o : Option (Nat × Nat)} (h : ∀ p, o = some p → p.1 < m) (j : Nat) (hj : j < 1) : IdsLt m (((ETy.own k).enc o).getD j .junk) := by
  obtain rfl : j = 0 := by omega
  rcases o with _ | p
  · exact .v _
  · exact .sl (h p rfl)
theorem boxLt_own {m : Nat} {ro : Bool} {k : IntKind} {os : List (Option (Nat × Nat))} (h : OwnLt m os) : BoxLt m (.row ro (.own k) os) := fun i j hi hj => own_ids (fun p hp => h i hi p hp) j hj
theorem RenB.ownKeep {m : Nat} {idx : List Nat} {ro : Bool} {k : IntKind} {os : List (Option (Nat × Nat))} (h : OwnLt m os) : RenB m idx (.row ro (.own k) os) (.row ro (.own k) os) := .low (boxLt_own h)
theorem RenB.ownSnoc {m : Nat} {idx : List Nat} {ro : Bool} {k : IntKind} {os : List (Option (Nat × Nat))} {i j len : Nat} (h : OwnLt m os) (hi : idx[j]? = some i) :
    RenB m idx (.row ro (.own k) (os ++ [some (m + j, len)])) (.row ro (.own k) (os ++ [some (m + i, len)])) := by
  refine .row (by simp) (fun q p hq hp => ?_)
  obtain rfl : p = 0 := by have : p < 1 := hp; omega
  by_cases g : q < os.length
  · have e : ∀ y : Option (Nat × Nat), (os ++ [y]).getD q none = os.getD q none := fun y => by simp only [List.getD]; rw [List.getElem?_append_left g]
    show RenV m idx (((ETy.own k).enc ((os ++ [some (m + j, len)]).getD q none)).getD 0 .junk) (((ETy.own k).enc ((os ++ [some (m + i, len)]).getD q none)).getD 0 .junk)
    rw [e, e]
    exact .low (own_ids (fun p hp => h q g p hp) 0 Nat.one_pos)
  · have e : ∀ y : Option (Nat × Nat), (os ++ [y]).getD q none = y := fun y => by
      have : q = os.length := by simp at hq; omega
      subst this
      simp [List.getD]
    show RenV m idx (((ETy.own k).enc ((os ++ [some (m + j, len)]).getD q none)).getD 0 .junk) (((ETy.own k).enc ((os ++ [some (m + i, len)]).getD q none)).getD 0 .junk)
    rw [e, e]
    exact .sl hi
/-- Own rows of own rows, lent. -/
theorem LentV.refs {pre post : List ABox} {ro : Bool} {xs : List (List Int)} {k g : Nat} {H : List ABox} (hk : H[k]? = some (.row ro (.own .i64) (Go.Eng.refs g xs))) (hg : ∀ i, i < xs.length → H[g + i]? = some (.row false (.int .i64) (xs.getD i []))) {m : Nat} (hm : m = xs.length) :
    LentV H (.sl 1 k 0 m) (.rd (.sli .i64) xs) :=
  .own hk (by rw [hm, refs_len]) (refs_len g xs).symm (fun i hi => by
    rw [refs_len] at hi
    exact .inr ⟨g + i, false, refs_get hi, hg i hi⟩)
theorem FinOk.kill0 {n N : Nat} {s : List (Nat × AVal)} {b l : List ABox} {X : ABox} {r : AVal} : FinOk n ⟨N, s, b, X :: l⟩ r r (b ++ .dead :: l) := fun c v w hn hv hh =>
  ⟨c, .refl _ c, hv, by
    have h : RelH c ((b ++ X :: l).set b.length .dead) w := RelH.kill hh b.length
    rwa [List.set_append, if_neg (by omega), Nat.sub_self] at h⟩
/-- Where the boxes of rows stand. -/
theorem lk_row {H pre post : List ABox} {xs : List (List Int)} {i : Nat} (h : i < xs.length) : (H ++ (pre ++ (rowsB xs ++ post)))[H.length + pre.length + i]? = some (.row false (.int .i64) (xs.getD i [])) := by
  rw [← List.append_assoc, List.getElem?_append_right (by simp <;> omega), List.length_append, Nat.add_sub_cancel_left, List.getElem?_append_left (by rw [rowsB_len]; exact h), rowsB_get h]
theorem lk_own {H pre post : List ABox} {xs : List (List Int)} {X : ABox} : (H ++ (pre ++ (rowsB xs ++ (X :: post))))[H.length + (pre.length + xs.length)]? = some X := by
  rw [← List.append_assoc, ← List.append_assoc, List.getElem?_append_right (by simp [rowsB_len] <;> omega)]
  rw [show H.length + (pre.length + xs.length) - (H ++ pre ++ rowsB xs).length = 0 by simp [rowsB_len] <;> omega]
  rfl
theorem rows_set {H pre post : List ABox} {xs : List (List Int)} {i : Nat} {x : List Int} (h : i < xs.length) : (pre ++ (rowsB xs ++ post)).set (pre.length + i) (.row false (.int .i64) x) = pre ++ (rowsB (xs.set i x) ++ post) := by
  rw [List.set_append, if_neg (by omega), Nat.add_sub_cancel_left, List.set_append, if_pos (by rw [rowsB_len]; exact h), rowsB_set]
/-- A call that leaves new boxes behind, of which the caller's walk speaks as it likes. -/
theorem vCall_newL {f : FuncId} {args : List AVal} {N : Nat} {s : List (Nat × AVal)} {b l new : List ABox} {x x' : AVal} {k : AVal → List ABox → List ABox → Prop}
    (h : AC P f args (b ++ l) (fun r H' => r = x ∧ H' = (b ++ l) ++ new)) {l' : List ABox} (hl : l ++ new = l') (hx : x = x') (hk : k x' b l') : vCall P (.fn f []) args ⟨N, s, b, l⟩ k := by
  subst hx; subst hl; exact vCall_new h hk
end Go.Eng
end
section
set_option linter.unusedSimpArgs false
set_option linter.unusedVariables false
set_option maxHeartbeats 1000000
namespace Go.Proofs.Ytdphlhplcmjepaa
open Go.Eng
noncomputable def po1 (c : Ch) (H : List ABox) (g i : Nat) : St := (⟨41, [(0, .rp [.rd (.int .i64) (c).1, .rd (.int .i64) (c).2] 0), (3, .sl 1 (H.length + 0) 0 ((piecesTo c i).length)), (10, .sl 1 (H.length + 1) 0 ((nets c).length)), (11, .v (.int .i64 (((nets c).length : Int)))), (12, .v (.int .i64 ((i : Int))))], H, [.row false (.own .i64) (refs g (piecesTo c i)), .row false (.int .i64) (nets c)]⟩ : St)
noncomputable def po2 (c : Ch) (H : List ABox) (g i k : Nat) : St := (⟨41, [(0, .rp [.rd (.int .i64) (c).1, .rd (.int .i64) (c).2] 0), (3, .sl 1 (H.length + 0) 0 ((pks c i k).length)), (5, .v (.int .i64 ((nets c).getD i 0))), (6, .sl 1 (H.length + 2) 0 ((cols c ((nets c).getD i 0)).length)), (7, .v (.int .i64 ((k : Int)))), (10, .sl 1 (H.length + 1) 0 ((nets c).length)), (11, .v (.int .i64 (((nets c).length : Int)))), (12, .v (.int .i64 ((i : Int))))], H, [.row false (.own .i64) (refs g (pks c i k)), .row false (.int .i64) (nets c), .row false (.int .i64) (cols c ((nets c).getD i 0))]⟩ : St)
noncomputable def po3 (c : Ch) (H : List ABox) (os : List (Option (Nat × Nat))) (x : List Int) (m i k : Nat) : St := (⟨41, [(0, .rp [.rd (.int .i64) (c).1, .rd (.int .i64) (c).2] 0), (3, .sl 1 (H.length + 1) 0 (m)), (5, .v (.int .i64 ((nets c).getD i 0))), (6, .sl 1 (H.length + 3) 0 ((cols c ((nets c).getD i 0)).length)), (7, .v (.int .i64 ((k : Int)))), (10, .sl 1 (H.length + 2) 0 ((nets c).length)), (11, .v (.int .i64 (((nets c).length : Int)))), (12, .v (.int .i64 ((i : Int))))], H, [.row false (.int .i64) x, .row false (.own .i64) os, .row false (.int .i64) (nets c), .row false (.int .i64) (cols c ((nets c).getD i 0))]⟩ : St)
theorem pieces65o_ac (c : Ch) (hx : c.1.length ≤ 1000) (hy : c.2.length = c.1.length) (G : List ABox) : AC Try.prog 65 [.rp [.rd (.int .i64) (c).1, .rd (.int .i64) (c).2] 0] G
    (fun r H' => r = .sl 1 (G.length + (pieces c).length) 0 (pieces c).length ∧ H' = G ++ (rowsB (pieces c) ++ [.row false (.own .i64) (refs G.length (pieces c))])) := by
  have hn := nets_len c
  refine AC.enter envOk2 Try.func65 rfl (by decide) Try.ntmps65 Try.results65 (by simp) fun hB => ?_
  have hBG := hB
  repeat' (first
    | (with_reducible refine AW.dreg (id := 9) envOk2 mixed [(false, 0, 2), (false, 0, 0), (false, 0, 0), (false, 0, 0), (false, 0, 0), (false, 0, 0), (false, 0, 0), (false, 0, 0), (false, 0, 0), (false, 0, 0), (false, 0, 0), (true, 0, 0), (true, 0, 0), (true, 0, 0), (false, 3, 3)] ?_ ?_ fun K hK => ?_; kernel_rfl; (first | rfl | exact base_len | exact base_len0))
    | (with_reducible refine AW.dregion (id := 9) envOk2 mixed [(false, 0, 2), (false, 0, 0), (false, 0, 0), (false, 0, 0), (false, 0, 0), (false, 0, 0), (false, 0, 0), (false, 0, 0), (false, 0, 0), (false, 0, 0), (false, 0, 0), (true, 0, 0), (true, 0, 0), (true, 0, 0), (false, 3, 3)] ?_ ?_ fun K hK => ?_; kernel_rfl; (first | rfl | exact base_len | exact base_len0))
    | (with_reducible refine vcDr_nil ?_)
    | (with_reducible refine hK' _ _ _ _ _ ?_; clear hK' K')
    | (with_reducible refine hK _ _ ?_; clear hK K; dsimp only)
    | (with_reducible refine AW.sreg envOk2 fun K hK => ?_)
    | (with_reducible refine AW.region envOk2 fun K hK => ?_)
    | (with_reducible refine AW.d0reg envOk2 mixed ?_ ?_ fun K hK => ?_; (first | rfl | exact base_len | exact base_len0); kernel_rfl)
    | (with_reducible refine AW.d0 envOk2 mixed ?_ ?_ fun K hK => ?_; (first | rfl | exact base_len | exact base_len0); kernel_rfl)
    | (with_reducible refine vcD_nil ?_)
    | (with_reducible refine vcL_nil ?_)
    | (with_reducible (first | refine vcDr_cons fun K' hK' => ?_ | refine vcD_cons fun K' hK' => ?_ | refine vcL_cons fun K' hK' => ?_); simp only [isC, Bool.false_or, Bool.or_true, vAppend, elems, ↓reduceDIte, List.take_length, Nat.le_refl, List.drop_zero, vGuard, undef, Bool.not_eq_eq_eq_not, dstOk, vcOp, vcF, isPure, putS, vcCall, St.ev, St.put, lk, AVal.ofVal, initS, Nat.reduceLT, true_and, and_true, vBin, vUn, vPick, vConv, vPart, vLoad, vStore, vIdxA, vIdx, vFldA, vExt, vLen, vMin, vNil, vAlloc, vBox, vBuild, vBuildSl, vMake, vSlice, bnd, partsA, fillA, decAll, AVal.flat, AVal.cell, cellsOk, setRange, ETy.enc, ETy.dec, ETy.sz, ETy.d, cond, Nat.reduceBEq, Nat.reduceAdd, Int.toNat_natCast, List.length_set, List.length_append, List.length_replicate, List.length_take, Nat.reduceSub, Nat.reduceEqDiff, get_loc, setBox_loc, next_eq, List.length_cons, List.length_nil, List.map_cons, List.map_nil, List.append_nil, List.nil_append, List.cons_append, List.set_cons_zero, List.set_cons_succ, getD_zero, getD_succ, List.getElem?_cons_succ, List.getElem?_cons_zero, List.take_succ_cons, List.take_zero, List.drop_succ_cons, List.drop_zero, List.all_cons, List.all_nil, Bool.and_true, Bool.true_and, Option.bind_some, Option.map_some, Option.map_none, decide_eq_true_eq, decide_eq_false_iff_not, ne_eq, Bool.not_eq_true, Bool.not_eq_false, Decidable.not_not, not_true_eq_false, not_false_eq_true, forall_const, false_implies, Bool.true_eq_false, Bool.false_eq_true, reduceCtorEq, decide_true, decide_false, Bool.not_true, Bool.not_false, if_true, if_false, Nat.zero_add, Nat.lt_irrefl, Value.oneCell', gt_iff_lt, Nat.reduceLeDiff, Nat.lt_add_one, List.length_append, vSealSl, vMakeMap, vLookup, vMapUpd, vMapEnt, vEntSt, vRange, vEntry, KK.of, KK.av, lkRes, entry_last, wvar_1, wzero_1, wvar_2, wzero_2, wknd_2, wsn_2, wvar_3, wzero_3, wknd_3, wsn_3, wvar_4, wzero_4, wknd_4, wsn_4, wsl_22, wkn_22, wvar_22, wzero_22, wsl_44, wkn_44, wvar_44, wzero_44, wvar_53, wzero_53, effI, loI, hiI, pendOk, pastOk, OpOK, Nat.not_lt_zero, Nat.le_zero_eq, Nat.add_eq_zero_iff, Nat.one_ne_zero, and_false, Nat.zero_le, true_implies]; try simp (disch := omega) only [wrap64])
    | (with_reducible refine hK' _ ?_; clear hK' K')
    | (with_reducible refine hK _ ?_; clear hK K)
    | ((with_reducible show vCall _ (AVal.fn 58 _) _ _ _); refine vCall_newE (nets58_ac c (by omega) hy _) (by simp only [List.length_append, List.length_cons, List.length_nil, Nat.reduceAdd]; rfl) ?_)
    | (with_reducible refine And.intro (And.intro rfl rfl) ?_)
    | (with_reducible refine And.intro (by omega) ?_)
    | (with_reducible refine And.intro (fun hg => ?_) (fun hg => ?_) <;> first | simp only [eq_false hg, decide_true, decide_false, and_true, true_and, and_false, false_and, not_true_eq_false, not_false_eq_true] | simp only [eq_true hg, decide_true, decide_false, and_true, true_and, and_false, false_and, not_true_eq_false, not_false_eq_true] | simp only [hg, decide_true, decide_false, and_true, true_and, and_false, false_and, not_true_eq_false, not_false_eq_true])
    | (with_reducible refine And.intro rfl (And.intro rfl rfl))
    | (with_reducible refine thenQ_n ?_)
    | (with_reducible refine thenQ_exit ?_)
    | (with_reducible refine thenQ_ret ?_)
    | (with_reducible refine midQ_ret ?_)
    | (with_reducible refine midQ_exit ?_)
    | (with_reducible refine blockQ_same ?_)
    | (with_reducible refine blockQ_ne (by decide) ?_)
    | (with_reducible refine blockQ_ret ?_)
    | (with_reducible refine blockQ_n ?_)
    | (with_reducible refine AW.exit ?_)
    | (with_reducible refine AW.block ?_)
    | (with_reducible refine AW.cond_t rfl ?_)
    | (with_reducible refine AW.cond_f rfl ?_)
    | (with_reducible refine AW.cond_dec rfl (fun hc => ?_) (fun hc => ?_))
    | (with_reducible refine AW.cond rfl (fun hc => ?_) (fun hc => ?_) <;> try simp only [Bool.not_eq_eq_eq_not, Bool.not_true, Bool.not_false, decide_eq_true_eq, decide_eq_false_iff_not] at hc)
    | (with_reducible refine AW.seq ?_)
    | (with_reducible refine AW.skip ?_)
    | (with_reducible refine AW.ret ?_)
    | (with_reducible refine And.intro ?_ ?_)
    | (with_reducible intro hg; first | simp only [eq_false hg, decide_true, decide_false, and_true, true_and, and_false, false_and, not_true_eq_false, not_false_eq_true] | simp only [eq_true hg, decide_true, decide_false, and_true, true_and, and_false, false_and, not_true_eq_false, not_false_eq_true])
    | (with_reducible refine retQ_drop ?_; simp only [vRes, packRes, vLoad, vPart, lk, cond, Nat.reduceBEq, get_loc, getD_zero, getD_succ, true_and, List.length_cons, List.length_nil, Nat.reduceAdd, Nat.reduceLT, Nat.reduceLeDiff, List.take_succ_cons, List.take_zero, List.drop_succ_cons, List.drop_zero, wvar_1, wzero_1, wvar_2, wzero_2, wknd_2, wsn_2, wvar_3, wzero_3, wknd_3, wsn_3, wvar_4, wzero_4, wknd_4, wsn_4, wsl_22, wkn_22, wvar_22, wzero_22, wsl_44, wkn_44, wvar_44, wzero_44, wvar_53, wzero_53])
    )
  refine AW.loop (fun i : Nat => po1 c (G ++ rowsB (piecesTo c i)) G.length i) (fun i => i ≤ (nets c).length) (fun i => (nets c).length - i) 0 (Nat.zero_le _) ?_ ?_
  · rw [piecesTo_zero, rowsB_nil, List.append_nil]
    unfold po1
    rw [piecesTo_zero]
    exact (Weak.slots (by repeat' first | exact trivial | exact ⟨rfl, trivial⟩ | refine ⟨rfl, ?_⟩))
  intro i hi
  obtain ⟨H, hH⟩ : ∃ H, G ++ rowsB (piecesTo c i) = H := ⟨_, rfl⟩
  have hHl : H.length = G.length + (piecesTo c i).length := by rw [← hH, List.length_append, rowsB_len]
  have hB : BaseLt H.length H := hH ▸ hBG.rows _
  rw [hH]
  unfold po1
  by_cases hin : i < (nets c).length
  · have hcl : 1 < (cols c ((nets c).getD i 0)).length := (nets_mem c (nets_getD c hin)).2.2
    have hcn : (cols c ((nets c).getD i 0)).length ≤ 1000 := by
      have := colsTo_len c ((nets c).getD i 0) c.1.length
      unfold cols; omega
    repeat' (first
      | (with_reducible refine AW.dreg (id := 9) envOk2 mixed [(false, 0, 2), (false, 0, 0), (false, 0, 0), (false, 0, 0), (false, 0, 0), (false, 0, 0), (false, 0, 0), (false, 0, 0), (false, 0, 0), (false, 0, 0), (false, 0, 0), (true, 0, 0), (true, 0, 0), (true, 0, 0), (false, 3, 3)] ?_ ?_ fun K hK => ?_; kernel_rfl; (first | rfl | exact base_len | exact base_len0))
      | (with_reducible refine AW.dregion (id := 9) envOk2 mixed [(false, 0, 2), (false, 0, 0), (false, 0, 0), (false, 0, 0), (false, 0, 0), (false, 0, 0), (false, 0, 0), (false, 0, 0), (false, 0, 0), (false, 0, 0), (false, 0, 0), (true, 0, 0), (true, 0, 0), (true, 0, 0), (false, 3, 3)] ?_ ?_ fun K hK => ?_; kernel_rfl; (first | rfl | exact base_len | exact base_len0))
      | (with_reducible refine vcDr_nil ?_)
      | (with_reducible refine hK' _ _ _ _ _ ?_; clear hK' K')
      | (with_reducible refine hK _ _ ?_; clear hK K; dsimp only)
      | (with_reducible refine AW.sreg envOk2 fun K hK => ?_)
      | (with_reducible refine AW.region envOk2 fun K hK => ?_)
      | (with_reducible refine AW.d0reg envOk2 mixed ?_ ?_ fun K hK => ?_; (first | rfl | exact base_len | exact base_len0); kernel_rfl)
      | (with_reducible refine AW.d0 envOk2 mixed ?_ ?_ fun K hK => ?_; (first | rfl | exact base_len | exact base_len0); kernel_rfl)
      | (with_reducible refine vcD_nil ?_)
      | (with_reducible refine vcL_nil ?_)
      | (with_reducible (first | refine vcDr_cons fun K' hK' => ?_ | refine vcD_cons fun K' hK' => ?_ | refine vcL_cons fun K' hK' => ?_); simp only [isC, Bool.false_or, Bool.or_true, vAppend, elems, ↓reduceDIte, List.take_length, Nat.le_refl, List.drop_zero, vGuard, undef, Bool.not_eq_eq_eq_not, dstOk, vcOp, vcF, isPure, putS, vcCall, St.ev, St.put, lk, AVal.ofVal, initS, Nat.reduceLT, true_and, and_true, vBin, vUn, vPick, vConv, vPart, vLoad, vStore, vIdxA, vIdx, vFldA, vExt, vLen, vMin, vNil, vAlloc, vBox, vBuild, vBuildSl, vMake, vSlice, bnd, partsA, fillA, decAll, AVal.flat, AVal.cell, cellsOk, setRange, ETy.enc, ETy.dec, ETy.sz, ETy.d, cond, Nat.reduceBEq, Nat.reduceAdd, Int.toNat_natCast, List.length_set, List.length_append, List.length_replicate, List.length_take, Nat.reduceSub, Nat.reduceEqDiff, get_loc, setBox_loc, next_eq, List.length_cons, List.length_nil, List.map_cons, List.map_nil, List.append_nil, List.nil_append, List.cons_append, List.set_cons_zero, List.set_cons_succ, getD_zero, getD_succ, List.getElem?_cons_succ, List.getElem?_cons_zero, List.take_succ_cons, List.take_zero, List.drop_succ_cons, List.drop_zero, List.all_cons, List.all_nil, Bool.and_true, Bool.true_and, Option.bind_some, Option.map_some, Option.map_none, decide_eq_true_eq, decide_eq_false_iff_not, ne_eq, Bool.not_eq_true, Bool.not_eq_false, Decidable.not_not, not_true_eq_false, not_false_eq_true, forall_const, false_implies, Bool.true_eq_false, Bool.false_eq_true, reduceCtorEq, decide_true, decide_false, Bool.not_true, Bool.not_false, if_true, if_false, Nat.zero_add, Nat.lt_irrefl, Value.oneCell', gt_iff_lt, Nat.reduceLeDiff, Nat.lt_add_one, List.length_append, vSealSl, vMakeMap, vLookup, vMapUpd, vMapEnt, vEntSt, vRange, vEntry, KK.of, KK.av, lkRes, entry_last, wvar_1, wzero_1, wvar_2, wzero_2, wknd_2, wsn_2, wvar_3, wzero_3, wknd_3, wsn_3, wvar_4, wzero_4, wknd_4, wsn_4, wsl_22, wkn_22, wvar_22, wzero_22, wsl_44, wkn_44, wvar_44, wzero_44, wvar_53, wzero_53, effI, loI, hiI, pendOk, pastOk, OpOK, Nat.not_lt_zero, Nat.le_zero_eq, Nat.add_eq_zero_iff, Nat.one_ne_zero, and_false, Nat.zero_le, true_implies]; try simp (disch := omega) only [wrap64])
      | (with_reducible refine hK' _ ?_; clear hK' K')
      | (with_reducible refine hK _ ?_; clear hK K)
      | ((with_reducible show vCall _ (AVal.fn 55 _) _ _ _); refine vCall_newE (cols55_ac c _ (by omega) hy _) (by simp only [List.length_append, List.length_cons, List.length_nil, Nat.reduceAdd]; rfl) ?_)
      | (with_reducible refine And.intro (And.intro rfl rfl) ?_)
      | (with_reducible refine And.intro (by omega) ?_)
      | (with_reducible refine And.intro (fun hg => ?_) (fun hg => ?_) <;> first | simp only [eq_false hg, decide_true, decide_false, and_true, true_and, and_false, false_and, not_true_eq_false, not_false_eq_true] | simp only [eq_true hg, decide_true, decide_false, and_true, true_and, and_false, false_and, not_true_eq_false, not_false_eq_true] | simp only [hg, decide_true, decide_false, and_true, true_and, and_false, false_and, not_true_eq_false, not_false_eq_true])
      | (with_reducible refine And.intro rfl (And.intro rfl rfl))
      | (with_reducible refine thenQ_n ?_)
      | (with_reducible refine thenQ_exit ?_)
      | (with_reducible refine thenQ_ret ?_)
      | (with_reducible refine midQ_ret ?_)
      | (with_reducible refine midQ_exit ?_)
      | (with_reducible refine blockQ_same ?_)
      | (with_reducible refine blockQ_ne (by decide) ?_)
      | (with_reducible refine blockQ_ret ?_)
      | (with_reducible refine blockQ_n ?_)
      | (with_reducible refine AW.exit ?_)
      | (with_reducible refine AW.block ?_)
      | (with_reducible refine AW.cond_t rfl ?_)
      | (with_reducible refine AW.cond_f rfl ?_)
      | (with_reducible refine AW.cond_dec rfl (fun hc => ?_) (fun hc => ?_))
      | (with_reducible refine AW.cond rfl (fun hc => ?_) (fun hc => ?_) <;> try simp only [Bool.not_eq_eq_eq_not, Bool.not_true, Bool.not_false, decide_eq_true_eq, decide_eq_false_iff_not] at hc)
      | (with_reducible refine AW.seq ?_)
      | (with_reducible refine AW.skip ?_)
      | (with_reducible refine AW.ret ?_)
      | (with_reducible refine And.intro ?_ ?_)
      | (with_reducible intro hg; first | simp only [eq_false hg, decide_true, decide_false, and_true, true_and, and_false, false_and, not_true_eq_false, not_false_eq_true] | simp only [eq_true hg, decide_true, decide_false, and_true, true_and, and_false, false_and, not_true_eq_false, not_false_eq_true])
      | (with_reducible refine retQ_drop ?_; simp only [vRes, packRes, vLoad, vPart, lk, cond, Nat.reduceBEq, get_loc, getD_zero, getD_succ, true_and, List.length_cons, List.length_nil, Nat.reduceAdd, Nat.reduceLT, Nat.reduceLeDiff, List.take_succ_cons, List.take_zero, List.drop_succ_cons, List.drop_zero, wvar_1, wzero_1, wvar_2, wzero_2, wknd_2, wsn_2, wvar_3, wzero_3, wknd_3, wsn_3, wvar_4, wzero_4, wknd_4, wsn_4, wsl_22, wkn_22, wvar_22, wzero_22, wsl_44, wkn_44, wvar_44, wzero_44, wvar_53, wzero_53])
      )
    · refine AW.loop (fun k : Nat => po2 c (G ++ rowsB (pks c i k)) G.length i k) (fun k => 1 ≤ k ∧ k ≤ (cols c ((nets c).getD i 0)).length) (fun k => (cols c ((nets c).getD i 0)).length - k) 1 ⟨Nat.le_refl _, by omega⟩ ?_ ?_
      · unfold po2
        rw [pks_one, hH]
        exact (Weak.slots (by repeat' first | exact trivial | exact ⟨rfl, trivial⟩ | refine ⟨rfl, ?_⟩))
      clear hB hHl hH H
      intro k ⟨hk1, hk⟩
      obtain ⟨H, hH⟩ : ∃ H, G ++ rowsB (pks c i k) = H := ⟨_, rfl⟩
      have hHl : H.length = G.length + (pks c i k).length := by rw [← hH, List.length_append, rowsB_len]
      have hB : BaseLt H.length H := hH ▸ hBG.rows _
      rw [hH]
      unfold po2
      have hpl := pks_le hx (i := i) (k := k) (by omega)
      have hrl := refs_len G.length (pks c i k)
      have hlt : OwnLt H.length (refs G.length (pks c i k)) := refs_lt (by omega)
      have htk : (refs G.length (pks c i k)).take (pks c i k).length = refs G.length (pks c i k) := List.take_of_length_le (by omega)
      by_cases hkn : k < (cols c ((nets c).getD i 0)).length
      · have hk3 : ((k : Int) - 1).toNat = k - 1 := by omega
        repeat' (first
          | (with_reducible refine AW.dreg (id := 9) envOk2 mixed [(false, 0, 2), (false, 0, 0), (false, 0, 0), (false, 0, 0), (false, 0, 0), (false, 0, 0), (false, 0, 0), (false, 0, 0), (false, 0, 0), (false, 0, 0), (false, 0, 0), (true, 0, 0), (true, 0, 0), (true, 0, 0), (false, 3, 3)] ?_ ?_ fun K hK => ?_; kernel_rfl; (first | rfl | exact base_len | exact base_len0))
          | (with_reducible refine AW.dregion (id := 9) envOk2 mixed [(false, 0, 2), (false, 0, 0), (false, 0, 0), (false, 0, 0), (false, 0, 0), (false, 0, 0), (false, 0, 0), (false, 0, 0), (false, 0, 0), (false, 0, 0), (false, 0, 0), (true, 0, 0), (true, 0, 0), (true, 0, 0), (false, 3, 3)] ?_ ?_ fun K hK => ?_; kernel_rfl; (first | rfl | exact base_len | exact base_len0))
          | (with_reducible refine vcDr_nil ?_)
          | (with_reducible refine hK' _ _ _ _ _ ?_; clear hK' K')
          | (with_reducible refine hK _ _ ?_; clear hK K; dsimp only)
          | (with_reducible refine AW.sreg envOk2 fun K hK => ?_)
          | (with_reducible refine AW.region envOk2 fun K hK => ?_)
          | (with_reducible refine AW.d0reg envOk2 mixed ?_ ?_ fun K hK => ?_; (first | rfl | exact base_len | exact base_len0); kernel_rfl)
          | (with_reducible refine AW.d0 envOk2 mixed ?_ ?_ fun K hK => ?_; (first | rfl | exact base_len | exact base_len0); kernel_rfl)
          | (with_reducible refine vcD_nil ?_)
          | (with_reducible refine vcL_nil ?_)
          | (with_reducible (first | refine vcDr_cons fun K' hK' => ?_ | refine vcD_cons fun K' hK' => ?_ | refine vcL_cons fun K' hK' => ?_); simp only [isC, Bool.false_or, Bool.or_true, vAppend, elems, ↓reduceDIte, List.take_length, Nat.le_refl, List.drop_zero, vGuard, undef, Bool.not_eq_eq_eq_not, dstOk, vcOp, vcF, isPure, putS, vcCall, St.ev, St.put, lk, AVal.ofVal, initS, Nat.reduceLT, true_and, and_true, vBin, vUn, vPick, vConv, vPart, vLoad, vStore, vIdxA, vIdx, vFldA, vExt, vLen, vMin, vNil, vAlloc, vBox, vBuild, vBuildSl, vMake, vSlice, bnd, partsA, fillA, decAll, AVal.flat, AVal.cell, cellsOk, setRange, ETy.enc, ETy.dec, ETy.sz, ETy.d, cond, Nat.reduceBEq, Nat.reduceAdd, Int.toNat_natCast, List.length_set, List.length_append, List.length_replicate, List.length_take, Nat.reduceSub, Nat.reduceEqDiff, get_loc, setBox_loc, next_eq, List.length_cons, List.length_nil, List.map_cons, List.map_nil, List.append_nil, List.nil_append, List.cons_append, List.set_cons_zero, List.set_cons_succ, getD_zero, getD_succ, List.getElem?_cons_succ, List.getElem?_cons_zero, List.take_succ_cons, List.take_zero, List.drop_succ_cons, List.drop_zero, List.all_cons, List.all_nil, Bool.and_true, Bool.true_and, Option.bind_some, Option.map_some, Option.map_none, decide_eq_true_eq, decide_eq_false_iff_not, ne_eq, Bool.not_eq_true, Bool.not_eq_false, Decidable.not_not, not_true_eq_false, not_false_eq_true, forall_const, false_implies, Bool.true_eq_false, Bool.false_eq_true, reduceCtorEq, decide_true, decide_false, Bool.not_true, Bool.not_false, if_true, if_false, Nat.zero_add, Nat.lt_irrefl, Value.oneCell', gt_iff_lt, Nat.reduceLeDiff, Nat.lt_add_one, List.length_append, vSealSl, vMakeMap, vLookup, vMapUpd, vMapEnt, vEntSt, vRange, vEntry, KK.of, KK.av, lkRes, entry_last, wvar_1, wzero_1, wvar_2, wzero_2, wknd_2, wsn_2, wvar_3, wzero_3, wknd_3, wsn_3, wvar_4, wzero_4, wknd_4, wsn_4, wsl_22, wkn_22, wvar_22, wzero_22, wsl_44, wkn_44, wvar_44, wzero_44, wvar_53, wzero_53, htk, hk3, hrl, effI, loI, hiI, pendOk, pastOk, OpOK, Nat.not_lt_zero, Nat.le_zero_eq, Nat.add_eq_zero_iff, Nat.one_ne_zero, and_false, Nat.zero_le, true_implies]; try simp (disch := omega) only [wrap64])
          | (with_reducible refine hK' _ ?_; clear hK' K')
          | (with_reducible refine hK _ ?_; clear hK K)
          | (with_reducible refine And.intro (And.intro rfl rfl) ?_)
          | (with_reducible refine And.intro (by omega) ?_)
          | (with_reducible refine And.intro (fun hg => ?_) (fun hg => ?_) <;> first | simp only [eq_false hg, decide_true, decide_false, and_true, true_and, and_false, false_and, not_true_eq_false, not_false_eq_true] | simp only [eq_true hg, decide_true, decide_false, and_true, true_and, and_false, false_and, not_true_eq_false, not_false_eq_true] | simp only [hg, decide_true, decide_false, and_true, true_and, and_false, false_and, not_true_eq_false, not_false_eq_true])
          | (with_reducible refine And.intro rfl (And.intro rfl rfl))
          | (with_reducible refine thenQ_n ?_)
          | (with_reducible refine thenQ_exit ?_)
          | (with_reducible refine thenQ_ret ?_)
          | (with_reducible refine midQ_ret ?_)
          | (with_reducible refine midQ_exit ?_)
          | (with_reducible refine blockQ_same ?_)
          | (with_reducible refine blockQ_ne (by decide) ?_)
          | (with_reducible refine blockQ_ret ?_)
          | (with_reducible refine blockQ_n ?_)
          | (with_reducible refine AW.exit ?_)
          | (with_reducible refine AW.block ?_)
          | (with_reducible refine AW.cond_t rfl ?_)
          | (with_reducible refine AW.cond_f rfl ?_)
          | (with_reducible refine AW.cond_dec rfl (fun hc => ?_) (fun hc => ?_))
          | (with_reducible refine AW.cond rfl (fun hc => ?_) (fun hc => ?_) <;> try simp only [Bool.not_eq_eq_eq_not, Bool.not_true, Bool.not_false, decide_eq_true_eq, decide_eq_false_iff_not] at hc)
          | (with_reducible refine AW.seq ?_)
          | (with_reducible refine AW.skip ?_)
          | (with_reducible refine AW.ret ?_)
          | (with_reducible refine And.intro ?_ ?_)
          | (with_reducible intro hg; first | simp only [eq_false hg, decide_true, decide_false, and_true, true_and, and_false, false_and, not_true_eq_false, not_false_eq_true] | simp only [eq_true hg, decide_true, decide_false, and_true, true_and, and_false, false_and, not_true_eq_false, not_false_eq_true])
          | (with_reducible refine retQ_drop ?_; simp only [vRes, packRes, vLoad, vPart, lk, cond, Nat.reduceBEq, get_loc, getD_zero, getD_succ, true_and, List.length_cons, List.length_nil, Nat.reduceAdd, Nat.reduceLT, Nat.reduceLeDiff, List.take_succ_cons, List.take_zero, List.drop_succ_cons, List.drop_zero, wvar_1, wzero_1, wvar_2, wzero_2, wknd_2, wsn_2, wvar_3, wzero_3, wknd_3, wsn_3, wvar_4, wzero_4, wknd_4, wsn_4, wsl_22, wkn_22, wvar_22, wzero_22, wsl_44, wkn_44, wvar_44, wzero_44, wvar_53, wzero_53])
          )
        all_goals first
          | (exfalso; omega)
          | skip
        refine ⟨k + 1, by omega, by omega, ?_⟩
        have e1 : G ++ rowsB (pks c i (k + 1)) = H ++ [.row false (.int .i64) [(nets c).getD i 0, (cols c ((nets c).getD i 0)).getD (k - 1) 0, (cols c ((nets c).getD i 0)).getD k 0]] := by
          rw [pks_next hk1 hkn, rowsB_snoc, ← List.append_assoc, hH]
        have e2 : refs G.length (pks c i (k + 1)) = refs G.length (pks c i k) ++ [some (H.length + 0, 3)] := by
          rw [pks_next hk1 hkn, refs_snoc, Nat.add_zero, hHl]; rfl
        have e3 : (pks c i (k + 1)).length = (pks c i k).length + 1 := by rw [pks_next hk1 hkn, List.length_append]; rfl
        rw [e1, e2, e3]
        refine Weak.trans (st1 := po3 c H (refs G.length (pks c i k) ++ [some (H.length + 0, 3)]) [(nets c).getD i 0, (cols c ((nets c).getD i 0)).getD (k - 1) 0, (cols c ((nets c).getD i 0)).getD k 0] ((pks c i k).length + 1) i (k + 1)) ?_ ?_
        · unfold po3
          exact (Weak.sel [3, 5, 1, 2] hB (by decide) (by (repeat' (first | exact trivial | exact RenB.plRow rfl | exact RenB.dead _ | exact RenB.ownKeep (by assumption) | exact RenB.ownSnoc (by assumption) rfl | exact RenB.ownAt (by assumption) (by assumption) rfl | exact RenB.map _ _ | exact RenB.iter rfl | refine And.intro ?_ ?_ | (refine RenB.plBox ?_; (repeat' (first | exact Pl.v _ | exact Pl.junk | exact Pl.rd rfl _ | exact pl_nil | refine pl_cons ?_ ?_ | refine Pl.agg ?_ | refine Pl.tup ?_ | refine Pl.rp ?_ | refine Pl.fn ?_)); (first | done | fail)) | refine RenB.of ?_ | exact RenV.ptr rfl | exact RenV.sl rfl | exact RenV.mp rfl | exact RenV.it rfl | (refine RenV.pl ?_; (repeat' (first | exact Pl.v _ | exact Pl.junk | exact Pl.rd rfl _ | exact pl_nil | refine pl_cons ?_ ?_ | refine Pl.agg ?_ | refine Pl.tup ?_ | refine Pl.rp ?_ | refine Pl.fn ?_)); (first | done | fail)) | refine RenV.aggL ?_ | refine RenV.fnL ?_ | exact Nat.lt_of_sub_pos (by decide) | (simp; (first | done | fail)))); (first | done | fail)) (by (repeat' (first | exact trivial | exact RenV.ptr rfl | exact RenV.sl rfl | exact RenV.mp rfl | exact RenV.it rfl | exact RenV.low (.v _) | exact RenV.low (IdsLt.ptr (by assumption)) | (refine RenV.pl ?_; (repeat' (first | exact Pl.v _ | exact Pl.junk | exact Pl.rd rfl _ | exact pl_nil | refine pl_cons ?_ ?_ | refine Pl.agg ?_ | refine Pl.tup ?_ | refine Pl.rp ?_ | refine Pl.fn ?_)); (first | done | fail)) | refine RenV.fnL ?_ | refine RenV.aggL ?_ | refine And.intro ?_ ?_)); (first | done | fail)))
        · unfold po3
          simp only [List.length_append, List.length_singleton, Nat.add_assoc, Nat.reduceAdd]
          exact Weak.grow
      · obtain rfl : k = (cols c ((nets c).getD i 0)).length := by omega
        repeat' (first
          | (with_reducible refine AW.dreg (id := 9) envOk2 mixed [(false, 0, 2), (false, 0, 0), (false, 0, 0), (false, 0, 0), (false, 0, 0), (false, 0, 0), (false, 0, 0), (false, 0, 0), (false, 0, 0), (false, 0, 0), (false, 0, 0), (true, 0, 0), (true, 0, 0), (true, 0, 0), (false, 3, 3)] ?_ ?_ fun K hK => ?_; kernel_rfl; (first | rfl | exact base_len | exact base_len0))
          | (with_reducible refine AW.dregion (id := 9) envOk2 mixed [(false, 0, 2), (false, 0, 0), (false, 0, 0), (false, 0, 0), (false, 0, 0), (false, 0, 0), (false, 0, 0), (false, 0, 0), (false, 0, 0), (false, 0, 0), (false, 0, 0), (true, 0, 0), (true, 0, 0), (true, 0, 0), (false, 3, 3)] ?_ ?_ fun K hK => ?_; kernel_rfl; (first | rfl | exact base_len | exact base_len0))
          | (with_reducible refine vcDr_nil ?_)
          | (with_reducible refine hK' _ _ _ _ _ ?_; clear hK' K')
          | (with_reducible refine hK _ _ ?_; clear hK K; dsimp only)
          | (with_reducible refine AW.sreg envOk2 fun K hK => ?_)
          | (with_reducible refine AW.region envOk2 fun K hK => ?_)
          | (with_reducible refine AW.d0reg envOk2 mixed ?_ ?_ fun K hK => ?_; (first | rfl | exact base_len | exact base_len0); kernel_rfl)
          | (with_reducible refine AW.d0 envOk2 mixed ?_ ?_ fun K hK => ?_; (first | rfl | exact base_len | exact base_len0); kernel_rfl)
          | (with_reducible refine vcD_nil ?_)
          | (with_reducible refine vcL_nil ?_)
          | (with_reducible (first | refine vcDr_cons fun K' hK' => ?_ | refine vcD_cons fun K' hK' => ?_ | refine vcL_cons fun K' hK' => ?_); simp only [isC, Bool.false_or, Bool.or_true, vAppend, elems, ↓reduceDIte, List.take_length, Nat.le_refl, List.drop_zero, vGuard, undef, Bool.not_eq_eq_eq_not, dstOk, vcOp, vcF, isPure, putS, vcCall, St.ev, St.put, lk, AVal.ofVal, initS, Nat.reduceLT, true_and, and_true, vBin, vUn, vPick, vConv, vPart, vLoad, vStore, vIdxA, vIdx, vFldA, vExt, vLen, vMin, vNil, vAlloc, vBox, vBuild, vBuildSl, vMake, vSlice, bnd, partsA, fillA, decAll, AVal.flat, AVal.cell, cellsOk, setRange, ETy.enc, ETy.dec, ETy.sz, ETy.d, cond, Nat.reduceBEq, Nat.reduceAdd, Int.toNat_natCast, List.length_set, List.length_append, List.length_replicate, List.length_take, Nat.reduceSub, Nat.reduceEqDiff, get_loc, setBox_loc, next_eq, List.length_cons, List.length_nil, List.map_cons, List.map_nil, List.append_nil, List.nil_append, List.cons_append, List.set_cons_zero, List.set_cons_succ, getD_zero, getD_succ, List.getElem?_cons_succ, List.getElem?_cons_zero, List.take_succ_cons, List.take_zero, List.drop_succ_cons, List.drop_zero, List.all_cons, List.all_nil, Bool.and_true, Bool.true_and, Option.bind_some, Option.map_some, Option.map_none, decide_eq_true_eq, decide_eq_false_iff_not, ne_eq, Bool.not_eq_true, Bool.not_eq_false, Decidable.not_not, not_true_eq_false, not_false_eq_true, forall_const, false_implies, Bool.true_eq_false, Bool.false_eq_true, reduceCtorEq, decide_true, decide_false, Bool.not_true, Bool.not_false, if_true, if_false, Nat.zero_add, Nat.lt_irrefl, Value.oneCell', gt_iff_lt, Nat.reduceLeDiff, Nat.lt_add_one, List.length_append, vSealSl, vMakeMap, vLookup, vMapUpd, vMapEnt, vEntSt, vRange, vEntry, KK.of, KK.av, lkRes, entry_last, wvar_1, wzero_1, wvar_2, wzero_2, wknd_2, wsn_2, wvar_3, wzero_3, wknd_3, wsn_3, wvar_4, wzero_4, wknd_4, wsn_4, wsl_22, wkn_22, wvar_22, wzero_22, wsl_44, wkn_44, wvar_44, wzero_44, wvar_53, wzero_53, htk, hrl, effI, loI, hiI, pendOk, pastOk, OpOK, Nat.not_lt_zero, Nat.le_zero_eq, Nat.add_eq_zero_iff, Nat.one_ne_zero, and_false, Nat.zero_le, true_implies]; try simp (disch := omega) only [wrap64])
          | (with_reducible refine hK' _ ?_; clear hK' K')
          | (with_reducible refine hK _ ?_; clear hK K)
          | (with_reducible refine And.intro (And.intro rfl rfl) ?_)
          | (with_reducible refine And.intro (by omega) ?_)
          | (with_reducible refine And.intro (fun hg => ?_) (fun hg => ?_) <;> first | simp only [eq_false hg, decide_true, decide_false, and_true, true_and, and_false, false_and, not_true_eq_false, not_false_eq_true] | simp only [eq_true hg, decide_true, decide_false, and_true, true_and, and_false, false_and, not_true_eq_false, not_false_eq_true] | simp only [hg, decide_true, decide_false, and_true, true_and, and_false, false_and, not_true_eq_false, not_false_eq_true])
          | (with_reducible refine And.intro rfl (And.intro rfl rfl))
          | (with_reducible refine thenQ_n ?_)
          | (with_reducible refine thenQ_exit ?_)
          | (with_reducible refine thenQ_ret ?_)
          | (with_reducible refine midQ_ret ?_)
          | (with_reducible refine midQ_exit ?_)
          | (with_reducible refine blockQ_same ?_)
          | (with_reducible refine blockQ_ne (by decide) ?_)
          | (with_reducible refine blockQ_ret ?_)
          | (with_reducible refine blockQ_n ?_)
          | (with_reducible refine AW.exit ?_)
          | (with_reducible refine AW.block ?_)
          | (with_reducible refine AW.cond_t rfl ?_)
          | (with_reducible refine AW.cond_f rfl ?_)
          | (with_reducible refine AW.cond_dec rfl (fun hc => ?_) (fun hc => ?_))
          | (with_reducible refine AW.cond rfl (fun hc => ?_) (fun hc => ?_) <;> try simp only [Bool.not_eq_eq_eq_not, Bool.not_true, Bool.not_false, decide_eq_true_eq, decide_eq_false_iff_not] at hc)
          | (with_reducible refine AW.seq ?_)
          | (with_reducible refine AW.skip ?_)
          | (with_reducible refine AW.ret ?_)
          | (with_reducible refine And.intro ?_ ?_)
          | (with_reducible intro hg; first | simp only [eq_false hg, decide_true, decide_false, and_true, true_and, and_false, false_and, not_true_eq_false, not_false_eq_true] | simp only [eq_true hg, decide_true, decide_false, and_true, true_and, and_false, false_and, not_true_eq_false, not_false_eq_true])
          | (with_reducible refine retQ_drop ?_; simp only [vRes, packRes, vLoad, vPart, lk, cond, Nat.reduceBEq, get_loc, getD_zero, getD_succ, true_and, List.length_cons, List.length_nil, Nat.reduceAdd, Nat.reduceLT, Nat.reduceLeDiff, List.take_succ_cons, List.take_zero, List.drop_succ_cons, List.drop_zero, wvar_1, wzero_1, wvar_2, wzero_2, wknd_2, wsn_2, wvar_3, wzero_3, wknd_3, wsn_3, wvar_4, wzero_4, wknd_4, wsn_4, wsl_22, wkn_22, wvar_22, wzero_22, wsl_44, wkn_44, wvar_44, wzero_44, wvar_53, wzero_53])
          )
        all_goals first
          | (exfalso; omega)
          | skip
        refine ⟨i + 1, by omega, by omega, ?_⟩
        rw [← pks_all hin, hH]
        exact (Weak.sel [0, 1] hB (by decide) (by (repeat' (first | exact trivial | exact RenB.plRow rfl | exact RenB.dead _ | exact RenB.ownKeep (by assumption) | exact RenB.ownSnoc (by assumption) rfl | exact RenB.ownAt (by assumption) (by assumption) rfl | exact RenB.map _ _ | exact RenB.iter rfl | refine And.intro ?_ ?_ | (refine RenB.plBox ?_; (repeat' (first | exact Pl.v _ | exact Pl.junk | exact Pl.rd rfl _ | exact pl_nil | refine pl_cons ?_ ?_ | refine Pl.agg ?_ | refine Pl.tup ?_ | refine Pl.rp ?_ | refine Pl.fn ?_)); (first | done | fail)) | refine RenB.of ?_ | exact RenV.ptr rfl | exact RenV.sl rfl | exact RenV.mp rfl | exact RenV.it rfl | (refine RenV.pl ?_; (repeat' (first | exact Pl.v _ | exact Pl.junk | exact Pl.rd rfl _ | exact pl_nil | refine pl_cons ?_ ?_ | refine Pl.agg ?_ | refine Pl.tup ?_ | refine Pl.rp ?_ | refine Pl.fn ?_)); (first | done | fail)) | refine RenV.aggL ?_ | refine RenV.fnL ?_ | exact Nat.lt_of_sub_pos (by decide) | (simp; (first | done | fail)))); (first | done | fail)) (by (repeat' (first | exact trivial | exact RenV.ptr rfl | exact RenV.sl rfl | exact RenV.mp rfl | exact RenV.it rfl | exact RenV.low (.v _) | exact RenV.low (IdsLt.ptr (by assumption)) | (refine RenV.pl ?_; (repeat' (first | exact Pl.v _ | exact Pl.junk | exact Pl.rd rfl _ | exact pl_nil | refine pl_cons ?_ ?_ | refine Pl.agg ?_ | refine Pl.tup ?_ | refine Pl.rp ?_ | refine Pl.fn ?_)); (first | done | fail)) | refine RenV.fnL ?_ | refine RenV.aggL ?_ | refine And.intro ?_ ?_)); (first | done | fail)))
    · exfalso; omega
  · obtain rfl : i = (nets c).length := by omega
    have hlt : OwnLt H.length (refs G.length (pieces c)) := refs_lt (by rw [hHl]; exact Nat.le_refl _)
    repeat' (first
      | (with_reducible refine AW.dreg (id := 9) envOk2 mixed [(false, 0, 2), (false, 0, 0), (false, 0, 0), (false, 0, 0), (false, 0, 0), (false, 0, 0), (false, 0, 0), (false, 0, 0), (false, 0, 0), (false, 0, 0), (false, 0, 0), (true, 0, 0), (true, 0, 0), (true, 0, 0), (false, 3, 3)] ?_ ?_ fun K hK => ?_; kernel_rfl; (first | rfl | exact base_len | exact base_len0))
      | (with_reducible refine AW.dregion (id := 9) envOk2 mixed [(false, 0, 2), (false, 0, 0), (false, 0, 0), (false, 0, 0), (false, 0, 0), (false, 0, 0), (false, 0, 0), (false, 0, 0), (false, 0, 0), (false, 0, 0), (false, 0, 0), (true, 0, 0), (true, 0, 0), (true, 0, 0), (false, 3, 3)] ?_ ?_ fun K hK => ?_; kernel_rfl; (first | rfl | exact base_len | exact base_len0))
      | (with_reducible refine vcDr_nil ?_)
      | (with_reducible refine hK' _ _ _ _ _ ?_; clear hK' K')
      | (with_reducible refine hK _ _ ?_; clear hK K; dsimp only)
      | (with_reducible refine AW.sreg envOk2 fun K hK => ?_)
      | (with_reducible refine AW.region envOk2 fun K hK => ?_)
      | (with_reducible refine AW.d0reg envOk2 mixed ?_ ?_ fun K hK => ?_; (first | rfl | exact base_len | exact base_len0); kernel_rfl)
      | (with_reducible refine AW.d0 envOk2 mixed ?_ ?_ fun K hK => ?_; (first | rfl | exact base_len | exact base_len0); kernel_rfl)
      | (with_reducible refine vcD_nil ?_)
      | (with_reducible refine vcL_nil ?_)
      | (with_reducible (first | refine vcDr_cons fun K' hK' => ?_ | refine vcD_cons fun K' hK' => ?_ | refine vcL_cons fun K' hK' => ?_); simp only [isC, Bool.false_or, Bool.or_true, vAppend, elems, ↓reduceDIte, List.take_length, Nat.le_refl, List.drop_zero, vGuard, undef, Bool.not_eq_eq_eq_not, dstOk, vcOp, vcF, isPure, putS, vcCall, St.ev, St.put, lk, AVal.ofVal, initS, Nat.reduceLT, true_and, and_true, vBin, vUn, vPick, vConv, vPart, vLoad, vStore, vIdxA, vIdx, vFldA, vExt, vLen, vMin, vNil, vAlloc, vBox, vBuild, vBuildSl, vMake, vSlice, bnd, partsA, fillA, decAll, AVal.flat, AVal.cell, cellsOk, setRange, ETy.enc, ETy.dec, ETy.sz, ETy.d, cond, Nat.reduceBEq, Nat.reduceAdd, Int.toNat_natCast, List.length_set, List.length_append, List.length_replicate, List.length_take, Nat.reduceSub, Nat.reduceEqDiff, get_loc, setBox_loc, next_eq, List.length_cons, List.length_nil, List.map_cons, List.map_nil, List.append_nil, List.nil_append, List.cons_append, List.set_cons_zero, List.set_cons_succ, getD_zero, getD_succ, List.getElem?_cons_succ, List.getElem?_cons_zero, List.take_succ_cons, List.take_zero, List.drop_succ_cons, List.drop_zero, List.all_cons, List.all_nil, Bool.and_true, Bool.true_and, Option.bind_some, Option.map_some, Option.map_none, decide_eq_true_eq, decide_eq_false_iff_not, ne_eq, Bool.not_eq_true, Bool.not_eq_false, Decidable.not_not, not_true_eq_false, not_false_eq_true, forall_const, false_implies, Bool.true_eq_false, Bool.false_eq_true, reduceCtorEq, decide_true, decide_false, Bool.not_true, Bool.not_false, if_true, if_false, Nat.zero_add, Nat.lt_irrefl, Value.oneCell', gt_iff_lt, Nat.reduceLeDiff, Nat.lt_add_one, List.length_append, vSealSl, vMakeMap, vLookup, vMapUpd, vMapEnt, vEntSt, vRange, vEntry, KK.of, KK.av, lkRes, entry_last, wvar_1, wzero_1, wvar_2, wzero_2, wknd_2, wsn_2, wvar_3, wzero_3, wknd_3, wsn_3, wvar_4, wzero_4, wknd_4, wsn_4, wsl_22, wkn_22, wvar_22, wzero_22, wsl_44, wkn_44, wvar_44, wzero_44, wvar_53, wzero_53, effI, loI, hiI, pendOk, pastOk, OpOK, Nat.not_lt_zero, Nat.le_zero_eq, Nat.add_eq_zero_iff, Nat.one_ne_zero, and_false, Nat.zero_le, true_implies]; try simp (disch := omega) only [wrap64])
      | (with_reducible refine hK' _ ?_; clear hK' K')
      | (with_reducible refine hK _ ?_; clear hK K)
      | (with_reducible refine And.intro (And.intro rfl rfl) ?_)
      | (with_reducible refine And.intro (by omega) ?_)
      | (with_reducible refine And.intro (fun hg => ?_) (fun hg => ?_) <;> first | simp only [eq_false hg, decide_true, decide_false, and_true, true_and, and_false, false_and, not_true_eq_false, not_false_eq_true] | simp only [eq_true hg, decide_true, decide_false, and_true, true_and, and_false, false_and, not_true_eq_false, not_false_eq_true] | simp only [hg, decide_true, decide_false, and_true, true_and, and_false, false_and, not_true_eq_false, not_false_eq_true])
      | (with_reducible refine And.intro rfl (And.intro rfl rfl))
      | (with_reducible refine thenQ_n ?_)
      | (with_reducible refine thenQ_exit ?_)
      | (with_reducible refine thenQ_ret ?_)
      | (with_reducible refine midQ_ret ?_)
      | (with_reducible refine midQ_exit ?_)
      | (with_reducible refine blockQ_same ?_)
      | (with_reducible refine blockQ_ne (by decide) ?_)
      | (with_reducible refine blockQ_ret ?_)
      | (with_reducible refine blockQ_n ?_)
      | (with_reducible refine AW.exit ?_)
      | (with_reducible refine AW.block ?_)
      | (with_reducible refine AW.cond_t rfl ?_)
      | (with_reducible refine AW.cond_f rfl ?_)
      | (with_reducible refine AW.cond_dec rfl (fun hc => ?_) (fun hc => ?_))
      | (with_reducible refine AW.cond rfl (fun hc => ?_) (fun hc => ?_) <;> try simp only [Bool.not_eq_eq_eq_not, Bool.not_true, Bool.not_false, decide_eq_true_eq, decide_eq_false_iff_not] at hc)
      | (with_reducible refine AW.seq ?_)
      | (with_reducible refine AW.skip ?_)
      | (with_reducible refine AW.ret ?_)
      | (with_reducible refine And.intro ?_ ?_)
      | (with_reducible intro hg; first | simp only [eq_false hg, decide_true, decide_false, and_true, true_and, and_false, false_and, not_true_eq_false, not_false_eq_true] | simp only [eq_true hg, decide_true, decide_false, and_true, true_and, and_false, false_and, not_true_eq_false, not_false_eq_true])
      | (with_reducible refine retQ_drop ?_; simp only [vRes, packRes, vLoad, vPart, lk, cond, Nat.reduceBEq, get_loc, getD_zero, getD_succ, true_and, List.length_cons, List.length_nil, Nat.reduceAdd, Nat.reduceLT, Nat.reduceLeDiff, List.take_succ_cons, List.take_zero, List.drop_succ_cons, List.drop_zero, wvar_1, wzero_1, wvar_2, wzero_2, wknd_2, wsn_2, wvar_3, wzero_3, wknd_3, wsn_3, wvar_4, wzero_4, wknd_4, wsn_4, wsl_22, wkn_22, wvar_22, wzero_22, wsl_44, wkn_44, wvar_44, wzero_44, wvar_53, wzero_53])
      )
    all_goals first
      | (exfalso; omega)
      | skip
    exact ⟨.sl 1 (H.length + 0) 0 (pieces c).length, _, FinOk.keep [0] (L := [.row false (.own .i64) (refs G.length (pieces c))]) hB (by decide) (by (repeat' (first | exact trivial | exact RenB.plRow rfl | exact RenB.dead _ | exact RenB.ownKeep (by assumption) | exact RenB.ownSnoc (by assumption) rfl | exact RenB.ownAt (by assumption) (by assumption) rfl | exact RenB.map _ _ | exact RenB.iter rfl | refine And.intro ?_ ?_ | (refine RenB.plBox ?_; (repeat' (first | exact Pl.v _ | exact Pl.junk | exact Pl.rd rfl _ | exact pl_nil | refine pl_cons ?_ ?_ | refine Pl.agg ?_ | refine Pl.tup ?_ | refine Pl.rp ?_ | refine Pl.fn ?_)); (first | done | fail)) | refine RenB.of ?_ | exact RenV.ptr rfl | exact RenV.sl rfl | exact RenV.mp rfl | exact RenV.it rfl | (refine RenV.pl ?_; (repeat' (first | exact Pl.v _ | exact Pl.junk | exact Pl.rd rfl _ | exact pl_nil | refine pl_cons ?_ ?_ | refine Pl.agg ?_ | refine Pl.tup ?_ | refine Pl.rp ?_ | refine Pl.fn ?_)); (first | done | fail)) | refine RenV.aggL ?_ | refine RenV.fnL ?_ | exact Nat.lt_of_sub_pos (by decide) | (simp; (first | done | fail)))); (first | done | fail)) (RenV.sl (j := 0) rfl), by rw [Nat.add_zero, hHl]; rfl, by rw [← List.append_assoc, ← hH]; rfl⟩
end Go.Proofs.Ytdphlhplcmjepaa
end
section
set_option linter.unusedSimpArgs false
set_option linter.unusedVariables false
set_option maxHeartbeats 1000000
namespace Go.Proofs.Ytdphlhplcmjepaa
open Go.Eng
end Go.Proofs.Ytdphlhplcmjepaa
end
section
set_option linter.unusedSimpArgs false
set_option linter.unusedVariables false
set_option maxHeartbeats 1000000
namespace Go.Proofs.Ytdphlhplcmjepaa
open Go.Eng
theorem vCall_toB {f : FuncId} {args : List AVal} {N : Nat} {s : List (Nat × AVal)} {b b' l l' : List ABox} {x : AVal} {k : AVal → List ABox → List ABox → Prop}
    (h : AC Try.prog f args (b ++ l) (fun r H' => r = x ∧ H' = b' ++ l')) (hb : b'.length = b.length) (hk : k x b' l') : vCall Try.prog (.fn f []) args ⟨N, s, b, l⟩ k := by
  show AC Try.prog f (args ++ []) (b ++ l) _
  rw [List.append_nil]
  exact h.mono fun r H' ⟨e1, e2⟩ => ⟨b', l', e2, hb, e1 ▸ hk⟩
/-- A copy, as a list of one's own. -/
theorem toIntsN_ac (xs : List Int) (hx : xs.length ≤ 1000000000) (H : List ABox) : AC Try.prog 50 [.rd (.int .i64) (xs)] H (fun r H' => r = .sl 1 H.length 0 xs.length ∧ H' = H ++ [.row false (.int .i64) xs]) := by
  refine AC.enter envOk Try.func50 rfl (by decide) Try.ntmps50 Try.results50 (by simp) fun hB => ?_
  repeat' (first
    | (with_reducible refine AW.sreg envOk fun K hK => ?_)
    | (with_reducible refine AW.region envOk fun K hK => ?_)
    | (with_reducible refine vcL_nil ?_)
    | (with_reducible (first | refine vcL_cons fun K' hK' => ?_); simp only [isC, Bool.false_or, Bool.or_true, vAppend, elems, ↓reduceDIte, List.take_length, Nat.le_refl, List.drop_zero, vGuard, undef, Bool.not_eq_eq_eq_not, dstOk, vcOp, vcF, isPure, putS, vcCall, St.ev, St.put, lk, AVal.ofVal, initS, Nat.reduceLT, true_and, and_true, vBin, vUn, vPick, vConv, vPart, vLoad, vStore, vIdxA, vIdx, vFldA, vExt, vLen, vMin, vNil, vAlloc, vBox, vBuild, vBuildSl, vMake, vSlice, bnd, partsA, fillA, decAll, AVal.flat, AVal.cell, cellsOk, setRange, ETy.enc, ETy.dec, ETy.sz, ETy.d, cond, Nat.reduceBEq, Nat.reduceAdd, Int.toNat_natCast, List.length_set, List.length_append, List.length_replicate, List.length_take, Nat.reduceSub, Nat.reduceEqDiff, get_loc, setBox_loc, next_eq, List.length_cons, List.length_nil, List.map_cons, List.map_nil, List.append_nil, List.nil_append, List.cons_append, List.set_cons_zero, List.set_cons_succ, getD_zero, getD_succ, List.getElem?_cons_succ, List.getElem?_cons_zero, List.take_succ_cons, List.take_zero, List.drop_succ_cons, List.drop_zero, List.all_cons, List.all_nil, Bool.and_true, Bool.true_and, Option.bind_some, Option.map_some, Option.map_none, decide_eq_true_eq, decide_eq_false_iff_not, ne_eq, Bool.not_eq_true, Bool.not_eq_false, Decidable.not_not, not_true_eq_false, not_false_eq_true, forall_const, false_implies, Bool.true_eq_false, Bool.false_eq_true, reduceCtorEq, decide_true, decide_false, Bool.not_true, Bool.not_false, if_true, if_false, Nat.zero_add, Nat.lt_irrefl, Value.oneCell', gt_iff_lt, Nat.reduceLeDiff, Nat.lt_add_one, List.length_append, vSealSl, vMakeMap, vLookup, vMapUpd, vMapEnt, vEntSt, vRange, vEntry, KK.of, KK.av, lkRes, entry_last, vvar_2, vzero_2, vknd_2, vsn_2, vvar_3, vzero_3, vknd_3, vsn_3, vvar_4, vzero_4, vknd_4, vsn_4, vsl_22, vkn_22, vvar_22, vzero_22]; try simp (disch := omega) only [wrap64])
    | (with_reducible refine hK' _ ?_; clear hK' K')
    | (with_reducible refine hK _ ?_; clear hK K)
    | (with_reducible refine And.intro (And.intro rfl rfl) ?_)
    | (with_reducible refine And.intro (by omega) ?_)
    | (with_reducible refine And.intro (fun hg => ?_) (fun hg => ?_) <;> first | simp only [eq_false hg, decide_true, decide_false, and_true, true_and, and_false, false_and, not_true_eq_false, not_false_eq_true] | simp only [eq_true hg, decide_true, decide_false, and_true, true_and, and_false, false_and, not_true_eq_false, not_false_eq_true] | simp only [hg, decide_true, decide_false, and_true, true_and, and_false, false_and, not_true_eq_false, not_false_eq_true])
    | (with_reducible refine And.intro rfl (And.intro rfl rfl))
    | (with_reducible refine thenQ_n ?_)
    | (with_reducible refine thenQ_exit ?_)
    | (with_reducible refine thenQ_ret ?_)
    | (with_reducible refine midQ_ret ?_)
    | (with_reducible refine midQ_exit ?_)
    | (with_reducible refine blockQ_same ?_)
    | (with_reducible refine blockQ_ne (by decide) ?_)
    | (with_reducible refine blockQ_ret ?_)
    | (with_reducible refine blockQ_n ?_)
    | (with_reducible refine AW.exit ?_)
    | (with_reducible refine AW.block ?_)
    | (with_reducible refine AW.cond_t rfl ?_)
    | (with_reducible refine AW.cond_f rfl ?_)
    | (with_reducible refine AW.cond_dec rfl (fun hc => ?_) (fun hc => ?_))
    | (with_reducible refine AW.cond rfl (fun hc => ?_) (fun hc => ?_) <;> try simp only [Bool.not_eq_eq_eq_not, Bool.not_true, Bool.not_false, decide_eq_true_eq, decide_eq_false_iff_not] at hc)
    | (with_reducible refine AW.seq ?_)
    | (with_reducible refine AW.skip ?_)
    | (with_reducible refine AW.ret ?_)
    | (with_reducible refine And.intro ?_ ?_)
    | (with_reducible intro hg; first | simp only [eq_false hg, decide_true, decide_false, and_true, true_and, and_false, false_and, not_true_eq_false, not_false_eq_true] | simp only [eq_true hg, decide_true, decide_false, and_true, true_and, and_false, false_and, not_true_eq_false, not_false_eq_true])
    | (with_reducible refine retQ_drop ?_; simp only [vRes, packRes, vLoad, vPart, lk, cond, Nat.reduceBEq, get_loc, getD_zero, getD_succ, true_and, List.length_cons, List.length_nil, Nat.reduceAdd, Nat.reduceLT, Nat.reduceLeDiff, List.take_succ_cons, List.take_zero, List.drop_succ_cons, List.drop_zero, vvar_2, vzero_2, vknd_2, vsn_2, vvar_3, vzero_3, vknd_3, vsn_3, vvar_4, vzero_4, vknd_4, vsn_4, vsl_22, vkn_22, vvar_22, vzero_22])
    )
  refine AW.loop (fun i : Nat => (⟨22, [(0, .rd (.int .i64) (xs)), (3, .sl 1 (H.length + 0) 0 (xs.length)), (4, .v (.int .i64 ((i : Int))))], H, [.row false (.int .i64) (xs.take i ++ List.replicate (xs.length - i) (0 : Int))]⟩ : St)) (fun i => i ≤ xs.length) (fun i => xs.length - i) 0 (Nat.zero_le _) ?_ ?_
  · simp only [List.take_zero, List.nil_append, Nat.sub_zero]
    exact (Weak.slots (by repeat' first | exact trivial | exact ⟨rfl, trivial⟩ | refine ⟨rfl, ?_⟩))
  · intro i hi
    repeat' (first
      | (with_reducible refine AW.sreg envOk fun K hK => ?_)
      | (with_reducible refine AW.region envOk fun K hK => ?_)
      | (with_reducible refine vcL_nil ?_)
      | (with_reducible (first | refine vcL_cons fun K' hK' => ?_); simp only [isC, Bool.false_or, Bool.or_true, vAppend, elems, ↓reduceDIte, List.take_length, Nat.le_refl, List.drop_zero, vGuard, undef, Bool.not_eq_eq_eq_not, dstOk, vcOp, vcF, isPure, putS, vcCall, St.ev, St.put, lk, AVal.ofVal, initS, Nat.reduceLT, true_and, and_true, vBin, vUn, vPick, vConv, vPart, vLoad, vStore, vIdxA, vIdx, vFldA, vExt, vLen, vMin, vNil, vAlloc, vBox, vBuild, vBuildSl, vMake, vSlice, bnd, partsA, fillA, decAll, AVal.flat, AVal.cell, cellsOk, setRange, ETy.enc, ETy.dec, ETy.sz, ETy.d, cond, Nat.reduceBEq, Nat.reduceAdd, Int.toNat_natCast, List.length_set, List.length_append, List.length_replicate, List.length_take, Nat.reduceSub, Nat.reduceEqDiff, get_loc, setBox_loc, next_eq, List.length_cons, List.length_nil, List.map_cons, List.map_nil, List.append_nil, List.nil_append, List.cons_append, List.set_cons_zero, List.set_cons_succ, getD_zero, getD_succ, List.getElem?_cons_succ, List.getElem?_cons_zero, List.take_succ_cons, List.take_zero, List.drop_succ_cons, List.drop_zero, List.all_cons, List.all_nil, Bool.and_true, Bool.true_and, Option.bind_some, Option.map_some, Option.map_none, decide_eq_true_eq, decide_eq_false_iff_not, ne_eq, Bool.not_eq_true, Bool.not_eq_false, Decidable.not_not, not_true_eq_false, not_false_eq_true, forall_const, false_implies, Bool.true_eq_false, Bool.false_eq_true, reduceCtorEq, decide_true, decide_false, Bool.not_true, Bool.not_false, if_true, if_false, Nat.zero_add, Nat.lt_irrefl, Value.oneCell', gt_iff_lt, Nat.reduceLeDiff, Nat.lt_add_one, List.length_append, vSealSl, vMakeMap, vLookup, vMapUpd, vMapEnt, vEntSt, vRange, vEntry, KK.of, KK.av, lkRes, entry_last, vvar_2, vzero_2, vknd_2, vsn_2, vvar_3, vzero_3, vknd_3, vsn_3, vvar_4, vzero_4, vknd_4, vsn_4, vsl_22, vkn_22, vvar_22, vzero_22]; try simp (disch := omega) only [wrap64])
      | (with_reducible refine hK' _ ?_; clear hK' K')
      | (with_reducible refine hK _ ?_; clear hK K)
      | (with_reducible refine And.intro (And.intro rfl rfl) ?_)
      | (with_reducible refine And.intro (by omega) ?_)
      | (with_reducible refine And.intro (fun hg => ?_) (fun hg => ?_) <;> first | simp only [eq_false hg, decide_true, decide_false, and_true, true_and, and_false, false_and, not_true_eq_false, not_false_eq_true] | simp only [eq_true hg, decide_true, decide_false, and_true, true_and, and_false, false_and, not_true_eq_false, not_false_eq_true] | simp only [hg, decide_true, decide_false, and_true, true_and, and_false, false_and, not_true_eq_false, not_false_eq_true])
      | (with_reducible refine And.intro rfl (And.intro rfl rfl))
      | (with_reducible refine thenQ_n ?_)
      | (with_reducible refine thenQ_exit ?_)
      | (with_reducible refine thenQ_ret ?_)
      | (with_reducible refine midQ_ret ?_)
      | (with_reducible refine midQ_exit ?_)
      | (with_reducible refine blockQ_same ?_)
      | (with_reducible refine blockQ_ne (by decide) ?_)
      | (with_reducible refine blockQ_ret ?_)
      | (with_reducible refine blockQ_n ?_)
      | (with_reducible refine AW.exit ?_)
      | (with_reducible refine AW.block ?_)
      | (with_reducible refine AW.cond_t rfl ?_)
      | (with_reducible refine AW.cond_f rfl ?_)
      | (with_reducible refine AW.cond_dec rfl (fun hc => ?_) (fun hc => ?_))
      | (with_reducible refine AW.cond rfl (fun hc => ?_) (fun hc => ?_) <;> try simp only [Bool.not_eq_eq_eq_not, Bool.not_true, Bool.not_false, decide_eq_true_eq, decide_eq_false_iff_not] at hc)
      | (with_reducible refine AW.seq ?_)
      | (with_reducible refine AW.skip ?_)
      | (with_reducible refine AW.ret ?_)
      | (with_reducible refine And.intro ?_ ?_)
      | (with_reducible intro hg; first | simp only [eq_false hg, decide_true, decide_false, and_true, true_and, and_false, false_and, not_true_eq_false, not_false_eq_true] | simp only [eq_true hg, decide_true, decide_false, and_true, true_and, and_false, false_and, not_true_eq_false, not_false_eq_true])
      | (with_reducible refine retQ_drop ?_; simp only [vRes, packRes, vLoad, vPart, lk, cond, Nat.reduceBEq, get_loc, getD_zero, getD_succ, true_and, List.length_cons, List.length_nil, Nat.reduceAdd, Nat.reduceLT, Nat.reduceLeDiff, List.take_succ_cons, List.take_zero, List.drop_succ_cons, List.drop_zero, vvar_2, vzero_2, vknd_2, vsn_2, vvar_3, vzero_3, vknd_3, vsn_3, vvar_4, vzero_4, vknd_4, vsn_4, vsl_22, vkn_22, vvar_22, vzero_22])
      )
    · refine ⟨i + 1, by omega, by omega, ?_⟩
      rw [fill_set xs 0 (by omega)]
      exact (Weak.slots (by repeat' first | exact trivial | exact ⟨rfl, trivial⟩ | refine ⟨rfl, ?_⟩))
    · obtain rfl : i = xs.length := by omega
      have e : xs.take xs.length ++ List.replicate (xs.length - xs.length) (0 : Int) = xs := by simp
      rw [e]
      exact ⟨_, _, FinOk.keep [0] (L := [.row false (.int .i64) xs]) hB (by decide) ⟨RenB.plRow rfl, by simp, trivial⟩ (RenV.sl (j := 0) rfl), rfl, rfl⟩
theorem toChN_ac (c : Ch) (hx : c.1.length ≤ 1000000000) (hy : c.2.length ≤ 1000000000) (H : List ABox) : AC Try.prog 16 [.agg [.rd (.int .i64) (c).1, .rd (.int .i64) (c).2]] H (fun r H' => r = .agg [.sl 1 H.length 0 c.1.length, .sl 1 (H.length + 1) 0 c.2.length] ∧ H' = H ++ [.row false (.int .i64) c.1, .row false (.int .i64) c.2]) := by
  refine AC.enter envOk Try.func16 rfl (by decide) Try.ntmps16 Try.results16 (by simp) fun hB => ?_
  repeat' (first
    | (with_reducible refine AW.sreg envOk fun K hK => ?_)
    | (with_reducible refine AW.region envOk fun K hK => ?_)
    | (with_reducible refine vcL_nil ?_)
    | (with_reducible (first | refine vcL_cons fun K' hK' => ?_); simp only [isC, Bool.false_or, Bool.or_true, vAppend, elems, ↓reduceDIte, List.take_length, Nat.le_refl, List.drop_zero, vGuard, undef, Bool.not_eq_eq_eq_not, dstOk, vcOp, vcF, isPure, putS, vcCall, St.ev, St.put, lk, AVal.ofVal, initS, Nat.reduceLT, true_and, and_true, vBin, vUn, vPick, vConv, vPart, vLoad, vStore, vIdxA, vIdx, vFldA, vExt, vLen, vMin, vNil, vAlloc, vBox, vBuild, vBuildSl, vMake, vSlice, bnd, partsA, fillA, decAll, AVal.flat, AVal.cell, cellsOk, setRange, ETy.enc, ETy.dec, ETy.sz, ETy.d, cond, Nat.reduceBEq, Nat.reduceAdd, Int.toNat_natCast, List.length_set, List.length_append, List.length_replicate, List.length_take, Nat.reduceSub, Nat.reduceEqDiff, get_loc, setBox_loc, next_eq, List.length_cons, List.length_nil, List.map_cons, List.map_nil, List.append_nil, List.nil_append, List.cons_append, List.set_cons_zero, List.set_cons_succ, getD_zero, getD_succ, List.getElem?_cons_succ, List.getElem?_cons_zero, List.take_succ_cons, List.take_zero, List.drop_succ_cons, List.drop_zero, List.all_cons, List.all_nil, Bool.and_true, Bool.true_and, Option.bind_some, Option.map_some, Option.map_none, decide_eq_true_eq, decide_eq_false_iff_not, ne_eq, Bool.not_eq_true, Bool.not_eq_false, Decidable.not_not, not_true_eq_false, not_false_eq_true, forall_const, false_implies, Bool.true_eq_false, Bool.false_eq_true, reduceCtorEq, decide_true, decide_false, Bool.not_true, Bool.not_false, if_true, if_false, Nat.zero_add, Nat.lt_irrefl, Value.oneCell', gt_iff_lt, Nat.reduceLeDiff, Nat.lt_add_one, List.length_append, vSealSl, vMakeMap, vLookup, vMapUpd, vMapEnt, vEntSt, vRange, vEntry, KK.of, KK.av, lkRes, entry_last, vvar_2, vzero_2, vknd_2, vsn_2, vsl_22, vkn_22, vvar_22, vzero_22, vvar_24, vzero_24, vbld_24, vvar_27, vzero_27, vbld_27, vfld_24_0, vfld_24_1, vfld_27_0, vfld_27_1]; try simp (disch := omega) only [wrap64])
    | (with_reducible refine hK' _ ?_; clear hK' K')
    | (with_reducible refine hK _ ?_; clear hK K)
    | (with_reducible refine vCall_newE (toIntsN_ac _ (by omega) _) (by simp only [List.length_append, List.length_cons, List.length_nil, Nat.reduceAdd]; rfl) ?_)
    | (with_reducible refine And.intro (And.intro rfl rfl) ?_)
    | (with_reducible refine And.intro (by omega) ?_)
    | (with_reducible refine And.intro (fun hg => ?_) (fun hg => ?_) <;> first | simp only [eq_false hg, decide_true, decide_false, and_true, true_and, and_false, false_and, not_true_eq_false, not_false_eq_true] | simp only [eq_true hg, decide_true, decide_false, and_true, true_and, and_false, false_and, not_true_eq_false, not_false_eq_true] | simp only [hg, decide_true, decide_false, and_true, true_and, and_false, false_and, not_true_eq_false, not_false_eq_true])
    | (with_reducible refine And.intro rfl (And.intro rfl rfl))
    | (with_reducible refine thenQ_n ?_)
    | (with_reducible refine thenQ_exit ?_)
    | (with_reducible refine thenQ_ret ?_)
    | (with_reducible refine midQ_ret ?_)
    | (with_reducible refine midQ_exit ?_)
    | (with_reducible refine blockQ_same ?_)
    | (with_reducible refine blockQ_ne (by decide) ?_)
    | (with_reducible refine blockQ_ret ?_)
    | (with_reducible refine blockQ_n ?_)
    | (with_reducible refine AW.exit ?_)
    | (with_reducible refine AW.block ?_)
    | (with_reducible refine AW.cond_t rfl ?_)
    | (with_reducible refine AW.cond_f rfl ?_)
    | (with_reducible refine AW.cond_dec rfl (fun hc => ?_) (fun hc => ?_))
    | (with_reducible refine AW.cond rfl (fun hc => ?_) (fun hc => ?_) <;> try simp only [Bool.not_eq_eq_eq_not, Bool.not_true, Bool.not_false, decide_eq_true_eq, decide_eq_false_iff_not] at hc)
    | (with_reducible refine AW.seq ?_)
    | (with_reducible refine AW.skip ?_)
    | (with_reducible refine AW.ret ?_)
    | (with_reducible refine And.intro ?_ ?_)
    | (with_reducible intro hg; first | simp only [eq_false hg, decide_true, decide_false, and_true, true_and, and_false, false_and, not_true_eq_false, not_false_eq_true] | simp only [eq_true hg, decide_true, decide_false, and_true, true_and, and_false, false_and, not_true_eq_false, not_false_eq_true])
    | (with_reducible refine retQ_drop ?_; simp only [vRes, packRes, vLoad, vPart, lk, cond, Nat.reduceBEq, get_loc, getD_zero, getD_succ, true_and, List.length_cons, List.length_nil, Nat.reduceAdd, Nat.reduceLT, Nat.reduceLeDiff, List.take_succ_cons, List.take_zero, List.drop_succ_cons, List.drop_zero, vvar_2, vzero_2, vknd_2, vsn_2, vsl_22, vkn_22, vvar_22, vzero_22, vvar_24, vzero_24, vbld_24, vvar_27, vzero_27, vbld_27, vfld_24_0, vfld_24_1, vfld_27_0, vfld_27_1])
    )
  exact ⟨_, _, FinOk.keep [3, 4] (L := [.row false (.int .i64) c.1, .row false (.int .i64) c.2]) hB (by decide) ⟨RenB.plRow rfl, by simp, RenB.plRow rfl, by simp, trivial⟩ (RenV.aggL (cs' := [.sl 1 (H.length + 0) 0 c.1.length, .sl 1 (H.length + 1) 0 c.2.length]) ⟨RenV.sl (j := 0) rfl, RenV.sl (j := 1) rfl, trivial⟩), rfl, rfl⟩
/-- A list of numbers, the first i of which are marked from k on. -/
def markTo (xs : List Int) (k : Int) (i : Nat) : List Int := (List.range i).map (fun j : Nat => k + (j : Int)) ++ xs.drop i
theorem markTo_len {xs : List Int} {k : Int} {i : Nat} (h : i ≤ xs.length) : (markTo xs k i).length = xs.length := by simp [markTo]; omega
theorem markTo_set {xs : List Int} {k : Int} {i : Nat} (h : i < xs.length) : (markTo xs k i).set i (k + i) = markTo xs k (i + 1) := by
  unfold markTo
  rw [List.set_append, if_neg (by simp), List.length_map, List.length_range, Nat.sub_self, List.range_succ, List.map_append, List.append_assoc]
  congr 1
  rw [List.drop_eq_getElem_cons h]
  rfl
/-- The numbers from k on. -/
def marks (k : Int) (n : Nat) : List Int := (List.range n).map (fun j : Nat => k + (j : Int))
theorem marks_len (k : Int) (n : Nat) : (marks k n).length = n := by simp [marks]
theorem marks_getD (k : Int) {n i : Nat} (h : i < n) : (marks k n).getD i 0 = k + (i : Int) := by simp [marks, List.getD, h]
theorem markTo_all (xs : List Int) (k : Int) : markTo xs k xs.length = marks k xs.length := by simp [markTo, marks]
theorem mark25_ac (xs : List Int) (k : Int) (hx : xs.length ≤ 1000000000) (hk : 0 ≤ k ∧ k ≤ 1000000000) (l : List ABox) (j : Nat) (hj : l[j]? = some (.row false (.int .i64) xs)) (H : List ABox) :
    AC Try.prog 25 [.sl 1 (H.length + j) 0 (xs.length), .v (.int .i64 (k))] (H ++ l) (fun r H' => r = .v (.int .i64 (k + xs.length)) ∧ H' = H ++ l.set j (.row false (.int .i64) (marks k xs.length))) := by
  have hjl : j < l.length := (List.getElem?_eq_some_iff.1 hj).1
  have hl : l.set j (.row false (.int .i64) xs) = l := set_same hj
  refine AC.enter envOk Try.func25 rfl (by decide) Try.ntmps25 Try.results25 (by simp) fun hB => ?_
  repeat' (first
    | (with_reducible refine AW.sreg envOk fun K hK => ?_)
    | (with_reducible refine AW.region envOk fun K hK => ?_)
    | (with_reducible refine vcL_nil ?_)
    | (with_reducible (first | refine vcL_cons fun K' hK' => ?_); simp only [isC, Bool.false_or, Bool.or_true, vAppend, elems, ↓reduceDIte, List.take_length, Nat.le_refl, List.drop_zero, vGuard, undef, Bool.not_eq_eq_eq_not, dstOk, vcOp, vcF, isPure, putS, vcCall, St.ev, St.put, lk, AVal.ofVal, initS, Nat.reduceLT, true_and, and_true, vBin, vUn, vPick, vConv, vPart, vLoad, vStore, vIdxA, vIdx, vFldA, vExt, vLen, vMin, vNil, vAlloc, vBox, vBuild, vBuildSl, vMake, vSlice, bnd, partsA, fillA, decAll, AVal.flat, AVal.cell, cellsOk, setRange, ETy.enc, ETy.dec, ETy.sz, ETy.d, cond, Nat.reduceBEq, Nat.reduceAdd, Int.toNat_natCast, List.length_set, List.length_append, List.length_replicate, List.length_take, Nat.reduceSub, Nat.reduceEqDiff, get_loc, setBox_loc, next_eq, List.length_cons, List.length_nil, List.map_cons, List.map_nil, List.append_nil, List.nil_append, List.cons_append, List.set_cons_zero, List.set_cons_succ, getD_zero, getD_succ, List.getElem?_cons_succ, List.getElem?_cons_zero, List.take_succ_cons, List.take_zero, List.drop_succ_cons, List.drop_zero, List.all_cons, List.all_nil, Bool.and_true, Bool.true_and, Option.bind_some, Option.map_some, Option.map_none, decide_eq_true_eq, decide_eq_false_iff_not, ne_eq, Bool.not_eq_true, Bool.not_eq_false, Decidable.not_not, not_true_eq_false, not_false_eq_true, forall_const, false_implies, Bool.true_eq_false, Bool.false_eq_true, reduceCtorEq, decide_true, decide_false, Bool.not_true, Bool.not_false, if_true, if_false, Nat.zero_add, Nat.lt_irrefl, Value.oneCell', gt_iff_lt, Nat.reduceLeDiff, Nat.lt_add_one, List.length_append, vSealSl, vMakeMap, vLookup, vMapUpd, vMapEnt, vEntSt, vRange, vEntry, KK.of, KK.av, lkRes, entry_last, vvar_2, vzero_2, vknd_2, vsn_2, vvar_3, vzero_3, vknd_3, vsn_3, vvar_4, vzero_4, vknd_4, vsn_4, vsl_22, vkn_22, vvar_22, vzero_22]; try simp (disch := omega) only [wrap64])
    | (with_reducible refine hK' _ ?_; clear hK' K')
    | (with_reducible refine hK _ ?_; clear hK K)
    | (with_reducible refine And.intro (And.intro rfl rfl) ?_)
    | (with_reducible refine And.intro (by omega) ?_)
    | (with_reducible refine And.intro (fun hg => ?_) (fun hg => ?_) <;> first | simp only [eq_false hg, decide_true, decide_false, and_true, true_and, and_false, false_and, not_true_eq_false, not_false_eq_true] | simp only [eq_true hg, decide_true, decide_false, and_true, true_and, and_false, false_and, not_true_eq_false, not_false_eq_true] | simp only [hg, decide_true, decide_false, and_true, true_and, and_false, false_and, not_true_eq_false, not_false_eq_true])
    | (with_reducible refine And.intro rfl (And.intro rfl rfl))
    | (with_reducible refine thenQ_n ?_)
    | (with_reducible refine thenQ_exit ?_)
    | (with_reducible refine thenQ_ret ?_)
    | (with_reducible refine midQ_ret ?_)
    | (with_reducible refine midQ_exit ?_)
    | (with_reducible refine blockQ_same ?_)
    | (with_reducible refine blockQ_ne (by decide) ?_)
    | (with_reducible refine blockQ_ret ?_)
    | (with_reducible refine blockQ_n ?_)
    | (with_reducible refine AW.exit ?_)
    | (with_reducible refine AW.block ?_)
    | (with_reducible refine AW.cond_t rfl ?_)
    | (with_reducible refine AW.cond_f rfl ?_)
    | (with_reducible refine AW.cond_dec rfl (fun hc => ?_) (fun hc => ?_))
    | (with_reducible refine AW.cond rfl (fun hc => ?_) (fun hc => ?_) <;> try simp only [Bool.not_eq_eq_eq_not, Bool.not_true, Bool.not_false, decide_eq_true_eq, decide_eq_false_iff_not] at hc)
    | (with_reducible refine AW.seq ?_)
    | (with_reducible refine AW.skip ?_)
    | (with_reducible refine AW.ret ?_)
    | (with_reducible refine And.intro ?_ ?_)
    | (with_reducible intro hg; first | simp only [eq_false hg, decide_true, decide_false, and_true, true_and, and_false, false_and, not_true_eq_false, not_false_eq_true] | simp only [eq_true hg, decide_true, decide_false, and_true, true_and, and_false, false_and, not_true_eq_false, not_false_eq_true])
    | (with_reducible refine retQ_drop ?_; simp only [vRes, packRes, vLoad, vPart, lk, cond, Nat.reduceBEq, get_loc, getD_zero, getD_succ, true_and, List.length_cons, List.length_nil, Nat.reduceAdd, Nat.reduceLT, Nat.reduceLeDiff, List.take_succ_cons, List.take_zero, List.drop_succ_cons, List.drop_zero, vvar_2, vzero_2, vknd_2, vsn_2, vvar_3, vzero_3, vknd_3, vsn_3, vvar_4, vzero_4, vknd_4, vsn_4, vsl_22, vkn_22, vvar_22, vzero_22])
    )
  refine AW.loop (fun i : Nat => (⟨19, [(0, .sl 1 (H.length + j) 0 (xs.length)), (1, .v (.int .i64 (k + (i : Int)))), (5, .v (.int .i64 ((i : Int))))], H ++ l.set j (.row false (.int .i64) (markTo xs k i)), []⟩ : St)) (fun i => i ≤ xs.length) (fun i => xs.length - i) 0 (Nat.zero_le _) ?_ ?_
  · rw [show markTo xs k 0 = xs by simp [markTo], hl, Int.natCast_zero, Int.add_zero]
    exact (Weak.slots (by repeat' first | exact trivial | exact ⟨rfl, trivial⟩ | refine ⟨rfl, ?_⟩))
  · intro i hi
    have hml := markTo_len (xs := xs) (k := k) hi
    repeat' (first
      | (with_reducible refine AW.sreg envOk fun K hK => ?_)
      | (with_reducible refine AW.region envOk fun K hK => ?_)
      | (with_reducible refine vcL_nil ?_)
      | (with_reducible (first | refine vcL_cons fun K' hK' => ?_); simp only [isC, Bool.false_or, Bool.or_true, vAppend, elems, ↓reduceDIte, List.take_length, Nat.le_refl, List.drop_zero, vGuard, undef, Bool.not_eq_eq_eq_not, dstOk, vcOp, vcF, isPure, putS, vcCall, St.ev, St.put, lk, AVal.ofVal, initS, Nat.reduceLT, true_and, and_true, vBin, vUn, vPick, vConv, vPart, vLoad, vStore, vIdxA, vIdx, vFldA, vExt, vLen, vMin, vNil, vAlloc, vBox, vBuild, vBuildSl, vMake, vSlice, bnd, partsA, fillA, decAll, AVal.flat, AVal.cell, cellsOk, setRange, ETy.enc, ETy.dec, ETy.sz, ETy.d, cond, Nat.reduceBEq, Nat.reduceAdd, Int.toNat_natCast, List.length_set, List.length_append, List.length_replicate, List.length_take, Nat.reduceSub, Nat.reduceEqDiff, get_bl, setBox_bl, next_bl, List.length_cons, List.length_nil, List.map_cons, List.map_nil, List.append_nil, List.nil_append, List.cons_append, List.set_cons_zero, List.set_cons_succ, getD_zero, getD_succ, List.getElem?_cons_succ, List.getElem?_cons_zero, List.take_succ_cons, List.take_zero, List.drop_succ_cons, List.drop_zero, List.all_cons, List.all_nil, Bool.and_true, Bool.true_and, Option.bind_some, Option.map_some, Option.map_none, decide_eq_true_eq, decide_eq_false_iff_not, ne_eq, Bool.not_eq_true, Bool.not_eq_false, Decidable.not_not, not_true_eq_false, not_false_eq_true, forall_const, false_implies, Bool.true_eq_false, Bool.false_eq_true, reduceCtorEq, decide_true, decide_false, Bool.not_true, Bool.not_false, if_true, if_false, Nat.zero_add, Nat.lt_irrefl, Value.oneCell', gt_iff_lt, Nat.reduceLeDiff, Nat.lt_add_one, List.length_append, vSealSl, vMakeMap, vLookup, vMapUpd, vMapEnt, vEntSt, vRange, vEntry, KK.of, KK.av, lkRes, entry_last, vvar_2, vzero_2, vknd_2, vsn_2, vvar_3, vzero_3, vknd_3, vsn_3, vvar_4, vzero_4, vknd_4, vsn_4, vsl_22, vkn_22, vvar_22, vzero_22, get_set hjl, get_set0 hjl, set_again, hjl, hml, Nat.zero_add]; try simp (disch := omega) only [wrap64])
      | (with_reducible refine hK' _ ?_; clear hK' K')
      | (with_reducible refine hK _ ?_; clear hK K)
      | (with_reducible refine And.intro (And.intro rfl rfl) ?_)
      | (with_reducible refine And.intro (by omega) ?_)
      | (with_reducible refine And.intro (fun hg => ?_) (fun hg => ?_) <;> first | simp only [eq_false hg, decide_true, decide_false, and_true, true_and, and_false, false_and, not_true_eq_false, not_false_eq_true] | simp only [eq_true hg, decide_true, decide_false, and_true, true_and, and_false, false_and, not_true_eq_false, not_false_eq_true] | simp only [hg, decide_true, decide_false, and_true, true_and, and_false, false_and, not_true_eq_false, not_false_eq_true])
      | (with_reducible refine And.intro rfl (And.intro rfl rfl))
      | (with_reducible refine thenQ_n ?_)
      | (with_reducible refine thenQ_exit ?_)
      | (with_reducible refine thenQ_ret ?_)
      | (with_reducible refine midQ_ret ?_)
      | (with_reducible refine midQ_exit ?_)
      | (with_reducible refine blockQ_same ?_)
      | (with_reducible refine blockQ_ne (by decide) ?_)
      | (with_reducible refine blockQ_ret ?_)
      | (with_reducible refine blockQ_n ?_)
      | (with_reducible refine AW.exit ?_)
      | (with_reducible refine AW.block ?_)
      | (with_reducible refine AW.cond_t rfl ?_)
      | (with_reducible refine AW.cond_f rfl ?_)
      | (with_reducible refine AW.cond_dec rfl (fun hc => ?_) (fun hc => ?_))
      | (with_reducible refine AW.cond rfl (fun hc => ?_) (fun hc => ?_) <;> try simp only [Bool.not_eq_eq_eq_not, Bool.not_true, Bool.not_false, decide_eq_true_eq, decide_eq_false_iff_not] at hc)
      | (with_reducible refine AW.seq ?_)
      | (with_reducible refine AW.skip ?_)
      | (with_reducible refine AW.ret ?_)
      | (with_reducible refine And.intro ?_ ?_)
      | (with_reducible intro hg; first | simp only [eq_false hg, decide_true, decide_false, and_true, true_and, and_false, false_and, not_true_eq_false, not_false_eq_true] | simp only [eq_true hg, decide_true, decide_false, and_true, true_and, and_false, false_and, not_true_eq_false, not_false_eq_true])
      | (with_reducible refine retQ_drop ?_; simp only [vRes, packRes, vLoad, vPart, lk, cond, Nat.reduceBEq, get_bl, getD_zero, getD_succ, true_and, List.length_cons, List.length_nil, Nat.reduceAdd, Nat.reduceLT, Nat.reduceLeDiff, List.take_succ_cons, List.take_zero, List.drop_succ_cons, List.drop_zero, vvar_2, vzero_2, vknd_2, vsn_2, vvar_3, vzero_3, vknd_3, vsn_3, vvar_4, vzero_4, vknd_4, vsn_4, vsl_22, vkn_22, vvar_22, vzero_22])
      )
    · refine ⟨i + 1, by omega, by omega, ?_⟩
      rw [markTo_set (by omega), show k + ((i + 1 : Nat) : Int) = k + (i : Int) + 1 by omega]
      exact (Weak.slots (by repeat' first | exact trivial | exact ⟨rfl, trivial⟩ | refine ⟨rfl, ?_⟩))
    · obtain rfl : i = xs.length := by omega
      rw [markTo_all]
      exact ⟨_, _, FinOk.base, rfl, rfl⟩
theorem mark25o_ac (xs : List Int) (k : Int) (hx : xs.length ≤ 1000000000) (hk : 0 ≤ k ∧ k ≤ 1000000000) (l : List ABox) (j : Nat) (hj : l[j]? = some (.row false (.int .i64) xs)) (H own : List ABox) :
    AC Try.prog 25 [.sl 1 (H.length + j) 0 (xs.length), .v (.int .i64 (k))] ((H ++ l) ++ own) (fun r H' => r = .v (.int .i64 (k + xs.length)) ∧ H' = (H ++ l.set j (.row false (.int .i64) (marks k xs.length))) ++ own) := by
  have hjl : j < l.length := (List.getElem?_eq_some_iff.1 hj).1
  have h := mark25_ac xs k hx hk (l ++ own) j (by rw [List.getElem?_append_left hjl]; exact hj) H
  rw [List.set_append, if_pos hjl] at h
  rw [List.append_assoc, List.append_assoc]
  exact h
theorem held26_ac (n : Nat) (k : Int) (hx : n ≤ 100000000) (hk : 0 ≤ k ∧ k ≤ 1000000000) (H : List ABox) : AC Try.prog 26 [.rd (.int .i64) (marks k n), .v (.int .i64 (k))] H (fun r H' => r = .v (.int .i64 (k + (n : Int))) ∧ H' = H) := by
  have hml := marks_len k n
  refine AC.enter envOk Try.func26 rfl (by decide) Try.ntmps26 Try.results26 (by simp) fun hB => ?_
  repeat' (first
    | (with_reducible refine AW.sreg envOk fun K hK => ?_)
    | (with_reducible refine AW.region envOk fun K hK => ?_)
    | (with_reducible refine vcL_nil ?_)
    | (with_reducible (first | refine vcL_cons fun K' hK' => ?_); simp only [isC, Bool.false_or, Bool.or_true, vAppend, elems, ↓reduceDIte, List.take_length, Nat.le_refl, List.drop_zero, vGuard, undef, Bool.not_eq_eq_eq_not, dstOk, vcOp, vcF, isPure, putS, vcCall, St.ev, St.put, lk, AVal.ofVal, initS, Nat.reduceLT, true_and, and_true, vBin, vUn, vPick, vConv, vPart, vLoad, vStore, vIdxA, vIdx, vFldA, vExt, vLen, vMin, vNil, vAlloc, vBox, vBuild, vBuildSl, vMake, vSlice, bnd, partsA, fillA, decAll, AVal.flat, AVal.cell, cellsOk, setRange, ETy.enc, ETy.dec, ETy.sz, ETy.d, cond, Nat.reduceBEq, Nat.reduceAdd, Int.toNat_natCast, List.length_set, List.length_append, List.length_replicate, List.length_take, Nat.reduceSub, Nat.reduceEqDiff, get_loc, setBox_loc, next_eq, List.length_cons, List.length_nil, List.map_cons, List.map_nil, List.append_nil, List.nil_append, List.cons_append, List.set_cons_zero, List.set_cons_succ, getD_zero, getD_succ, List.getElem?_cons_succ, List.getElem?_cons_zero, List.take_succ_cons, List.take_zero, List.drop_succ_cons, List.drop_zero, List.all_cons, List.all_nil, Bool.and_true, Bool.true_and, Option.bind_some, Option.map_some, Option.map_none, decide_eq_true_eq, decide_eq_false_iff_not, ne_eq, Bool.not_eq_true, Bool.not_eq_false, Decidable.not_not, not_true_eq_false, not_false_eq_true, forall_const, false_implies, Bool.true_eq_false, Bool.false_eq_true, reduceCtorEq, decide_true, decide_false, Bool.not_true, Bool.not_false, if_true, if_false, Nat.zero_add, Nat.lt_irrefl, Value.oneCell', gt_iff_lt, Nat.reduceLeDiff, Nat.lt_add_one, List.length_append, vSealSl, vMakeMap, vLookup, vMapUpd, vMapEnt, vEntSt, vRange, vEntry, KK.of, KK.av, lkRes, entry_last, vvar_2, vzero_2, vknd_2, vsn_2, vvar_3, vzero_3, vknd_3, vsn_3, vvar_4, vzero_4, vknd_4, vsn_4, vsl_22, vkn_22, vvar_22, vzero_22]; try simp (disch := omega) only [wrap64])
    | (with_reducible refine hK' _ ?_; clear hK' K')
    | (with_reducible refine hK _ ?_; clear hK K)
    | (with_reducible refine And.intro (And.intro rfl rfl) ?_)
    | (with_reducible refine And.intro (by omega) ?_)
    | (with_reducible refine And.intro (fun hg => ?_) (fun hg => ?_) <;> first | simp only [eq_false hg, decide_true, decide_false, and_true, true_and, and_false, false_and, not_true_eq_false, not_false_eq_true] | simp only [eq_true hg, decide_true, decide_false, and_true, true_and, and_false, false_and, not_true_eq_false, not_false_eq_true] | simp only [hg, decide_true, decide_false, and_true, true_and, and_false, false_and, not_true_eq_false, not_false_eq_true])
    | (with_reducible refine And.intro rfl (And.intro rfl rfl))
    | (with_reducible refine thenQ_n ?_)
    | (with_reducible refine thenQ_exit ?_)
    | (with_reducible refine thenQ_ret ?_)
    | (with_reducible refine midQ_ret ?_)
    | (with_reducible refine midQ_exit ?_)
    | (with_reducible refine blockQ_same ?_)
    | (with_reducible refine blockQ_ne (by decide) ?_)
    | (with_reducible refine blockQ_ret ?_)
    | (with_reducible refine blockQ_n ?_)
    | (with_reducible refine AW.exit ?_)
    | (with_reducible refine AW.block ?_)
    | (with_reducible refine AW.cond_t rfl ?_)
    | (with_reducible refine AW.cond_f rfl ?_)
    | (with_reducible refine AW.cond_dec rfl (fun hc => ?_) (fun hc => ?_))
    | (with_reducible refine AW.cond rfl (fun hc => ?_) (fun hc => ?_) <;> try simp only [Bool.not_eq_eq_eq_not, Bool.not_true, Bool.not_false, decide_eq_true_eq, decide_eq_false_iff_not] at hc)
    | (with_reducible refine AW.seq ?_)
    | (with_reducible refine AW.skip ?_)
    | (with_reducible refine AW.ret ?_)
    | (with_reducible refine And.intro ?_ ?_)
    | (with_reducible intro hg; first | simp only [eq_false hg, decide_true, decide_false, and_true, true_and, and_false, false_and, not_true_eq_false, not_false_eq_true] | simp only [eq_true hg, decide_true, decide_false, and_true, true_and, and_false, false_and, not_true_eq_false, not_false_eq_true])
    | (with_reducible refine retQ_drop ?_; simp only [vRes, packRes, vLoad, vPart, lk, cond, Nat.reduceBEq, get_loc, getD_zero, getD_succ, true_and, List.length_cons, List.length_nil, Nat.reduceAdd, Nat.reduceLT, Nat.reduceLeDiff, List.take_succ_cons, List.take_zero, List.drop_succ_cons, List.drop_zero, vvar_2, vzero_2, vknd_2, vsn_2, vvar_3, vzero_3, vknd_3, vsn_3, vvar_4, vzero_4, vknd_4, vsn_4, vsl_22, vkn_22, vvar_22, vzero_22])
    )
  refine AW.loop (fun i : Nat => (⟨21, [(0, .rd (.int .i64) (marks k n)), (1, .v (.int .i64 (k + (i : Int)))), (5, .v (.int .i64 ((i : Int))))], H, []⟩ : St)) (fun i => i ≤ n) (fun i => n - i) 0 (Nat.zero_le _) ?_ ?_
  · rw [Int.natCast_zero, Int.add_zero]
    exact (Weak.slots (by repeat' first | exact trivial | exact ⟨rfl, trivial⟩ | refine ⟨rfl, ?_⟩))
  · intro i hi
    by_cases hin : i < n
    · have hg2 := marks_getD k hin
      repeat' (first
        | (with_reducible refine AW.sreg envOk fun K hK => ?_)
        | (with_reducible refine AW.region envOk fun K hK => ?_)
        | (with_reducible refine vcL_nil ?_)
        | (with_reducible (first | refine vcL_cons fun K' hK' => ?_); simp only [isC, Bool.false_or, Bool.or_true, vAppend, elems, ↓reduceDIte, List.take_length, Nat.le_refl, List.drop_zero, vGuard, undef, Bool.not_eq_eq_eq_not, dstOk, vcOp, vcF, isPure, putS, vcCall, St.ev, St.put, lk, AVal.ofVal, initS, Nat.reduceLT, true_and, and_true, vBin, vUn, vPick, vConv, vPart, vLoad, vStore, vIdxA, vIdx, vFldA, vExt, vLen, vMin, vNil, vAlloc, vBox, vBuild, vBuildSl, vMake, vSlice, bnd, partsA, fillA, decAll, AVal.flat, AVal.cell, cellsOk, setRange, ETy.enc, ETy.dec, ETy.sz, ETy.d, cond, Nat.reduceBEq, Nat.reduceAdd, Int.toNat_natCast, List.length_set, List.length_append, List.length_replicate, List.length_take, Nat.reduceSub, Nat.reduceEqDiff, get_loc, setBox_loc, next_eq, List.length_cons, List.length_nil, List.map_cons, List.map_nil, List.append_nil, List.nil_append, List.cons_append, List.set_cons_zero, List.set_cons_succ, getD_zero, getD_succ, List.getElem?_cons_succ, List.getElem?_cons_zero, List.take_succ_cons, List.take_zero, List.drop_succ_cons, List.drop_zero, List.all_cons, List.all_nil, Bool.and_true, Bool.true_and, Option.bind_some, Option.map_some, Option.map_none, decide_eq_true_eq, decide_eq_false_iff_not, ne_eq, Bool.not_eq_true, Bool.not_eq_false, Decidable.not_not, not_true_eq_false, not_false_eq_true, forall_const, false_implies, Bool.true_eq_false, Bool.false_eq_true, reduceCtorEq, decide_true, decide_false, Bool.not_true, Bool.not_false, if_true, if_false, Nat.zero_add, Nat.lt_irrefl, Value.oneCell', gt_iff_lt, Nat.reduceLeDiff, Nat.lt_add_one, List.length_append, vSealSl, vMakeMap, vLookup, vMapUpd, vMapEnt, vEntSt, vRange, vEntry, KK.of, KK.av, lkRes, entry_last, vvar_2, vzero_2, vknd_2, vsn_2, vvar_3, vzero_3, vknd_3, vsn_3, vvar_4, vzero_4, vknd_4, vsn_4, vsl_22, vkn_22, vvar_22, vzero_22, hml, hg2]; try simp (disch := omega) only [wrap64])
        | (with_reducible refine hK' _ ?_; clear hK' K')
        | (with_reducible refine hK _ ?_; clear hK K)
        | (with_reducible refine And.intro (And.intro rfl rfl) ?_)
        | (with_reducible refine And.intro (by omega) ?_)
        | (with_reducible refine And.intro (fun hg => ?_) (fun hg => ?_) <;> first | simp only [eq_false hg, decide_true, decide_false, and_true, true_and, and_false, false_and, not_true_eq_false, not_false_eq_true] | simp only [eq_true hg, decide_true, decide_false, and_true, true_and, and_false, false_and, not_true_eq_false, not_false_eq_true] | simp only [hg, decide_true, decide_false, and_true, true_and, and_false, false_and, not_true_eq_false, not_false_eq_true])
        | (with_reducible refine And.intro rfl (And.intro rfl rfl))
        | (with_reducible refine thenQ_n ?_)
        | (with_reducible refine thenQ_exit ?_)
        | (with_reducible refine thenQ_ret ?_)
        | (with_reducible refine midQ_ret ?_)
        | (with_reducible refine midQ_exit ?_)
        | (with_reducible refine blockQ_same ?_)
        | (with_reducible refine blockQ_ne (by decide) ?_)
        | (with_reducible refine blockQ_ret ?_)
        | (with_reducible refine blockQ_n ?_)
        | (with_reducible refine AW.exit ?_)
        | (with_reducible refine AW.block ?_)
        | (with_reducible refine AW.cond_t rfl ?_)
        | (with_reducible refine AW.cond_f rfl ?_)
        | (with_reducible refine AW.cond_dec rfl (fun hc => ?_) (fun hc => ?_))
        | (with_reducible refine AW.cond rfl (fun hc => ?_) (fun hc => ?_) <;> try simp only [Bool.not_eq_eq_eq_not, Bool.not_true, Bool.not_false, decide_eq_true_eq, decide_eq_false_iff_not] at hc)
        | (with_reducible refine AW.seq ?_)
        | (with_reducible refine AW.skip ?_)
        | (with_reducible refine AW.ret ?_)
        | (with_reducible refine And.intro ?_ ?_)
        | (with_reducible intro hg; first | simp only [eq_false hg, decide_true, decide_false, and_true, true_and, and_false, false_and, not_true_eq_false, not_false_eq_true] | simp only [eq_true hg, decide_true, decide_false, and_true, true_and, and_false, false_and, not_true_eq_false, not_false_eq_true])
        | (with_reducible refine retQ_drop ?_; simp only [vRes, packRes, vLoad, vPart, lk, cond, Nat.reduceBEq, get_loc, getD_zero, getD_succ, true_and, List.length_cons, List.length_nil, Nat.reduceAdd, Nat.reduceLT, Nat.reduceLeDiff, List.take_succ_cons, List.take_zero, List.drop_succ_cons, List.drop_zero, vvar_2, vzero_2, vknd_2, vsn_2, vvar_3, vzero_3, vknd_3, vsn_3, vvar_4, vzero_4, vknd_4, vsn_4, vsl_22, vkn_22, vvar_22, vzero_22])
        )
      all_goals try (exfalso; omega)
      · refine ⟨i + 1, by omega, by omega, ?_⟩
        rw [show k + ((i + 1 : Nat) : Int) = k + (i : Int) + 1 by omega]
        exact (Weak.slots (by repeat' first | exact trivial | exact ⟨rfl, trivial⟩ | refine ⟨rfl, ?_⟩))
    · obtain rfl : i = n := by omega
      repeat' (first
        | (with_reducible refine AW.sreg envOk fun K hK => ?_)
        | (with_reducible refine AW.region envOk fun K hK => ?_)
        | (with_reducible refine vcL_nil ?_)
        | (with_reducible (first | refine vcL_cons fun K' hK' => ?_); simp only [isC, Bool.false_or, Bool.or_true, vAppend, elems, ↓reduceDIte, List.take_length, Nat.le_refl, List.drop_zero, vGuard, undef, Bool.not_eq_eq_eq_not, dstOk, vcOp, vcF, isPure, putS, vcCall, St.ev, St.put, lk, AVal.ofVal, initS, Nat.reduceLT, true_and, and_true, vBin, vUn, vPick, vConv, vPart, vLoad, vStore, vIdxA, vIdx, vFldA, vExt, vLen, vMin, vNil, vAlloc, vBox, vBuild, vBuildSl, vMake, vSlice, bnd, partsA, fillA, decAll, AVal.flat, AVal.cell, cellsOk, setRange, ETy.enc, ETy.dec, ETy.sz, ETy.d, cond, Nat.reduceBEq, Nat.reduceAdd, Int.toNat_natCast, List.length_set, List.length_append, List.length_replicate, List.length_take, Nat.reduceSub, Nat.reduceEqDiff, get_loc, setBox_loc, next_eq, List.length_cons, List.length_nil, List.map_cons, List.map_nil, List.append_nil, List.nil_append, List.cons_append, List.set_cons_zero, List.set_cons_succ, getD_zero, getD_succ, List.getElem?_cons_succ, List.getElem?_cons_zero, List.take_succ_cons, List.take_zero, List.drop_succ_cons, List.drop_zero, List.all_cons, List.all_nil, Bool.and_true, Bool.true_and, Option.bind_some, Option.map_some, Option.map_none, decide_eq_true_eq, decide_eq_false_iff_not, ne_eq, Bool.not_eq_true, Bool.not_eq_false, Decidable.not_not, not_true_eq_false, not_false_eq_true, forall_const, false_implies, Bool.true_eq_false, Bool.false_eq_true, reduceCtorEq, decide_true, decide_false, Bool.not_true, Bool.not_false, if_true, if_false, Nat.zero_add, Nat.lt_irrefl, Value.oneCell', gt_iff_lt, Nat.reduceLeDiff, Nat.lt_add_one, List.length_append, vSealSl, vMakeMap, vLookup, vMapUpd, vMapEnt, vEntSt, vRange, vEntry, KK.of, KK.av, lkRes, entry_last, vvar_2, vzero_2, vknd_2, vsn_2, vvar_3, vzero_3, vknd_3, vsn_3, vvar_4, vzero_4, vknd_4, vsn_4, vsl_22, vkn_22, vvar_22, vzero_22, hml]; try simp (disch := omega) only [wrap64])
        | (with_reducible refine hK' _ ?_; clear hK' K')
        | (with_reducible refine hK _ ?_; clear hK K)
        | (with_reducible refine And.intro (And.intro rfl rfl) ?_)
        | (with_reducible refine And.intro (by omega) ?_)
        | (with_reducible refine And.intro (fun hg => ?_) (fun hg => ?_) <;> first | simp only [eq_false hg, decide_true, decide_false, and_true, true_and, and_false, false_and, not_true_eq_false, not_false_eq_true] | simp only [eq_true hg, decide_true, decide_false, and_true, true_and, and_false, false_and, not_true_eq_false, not_false_eq_true] | simp only [hg, decide_true, decide_false, and_true, true_and, and_false, false_and, not_true_eq_false, not_false_eq_true])
        | (with_reducible refine And.intro rfl (And.intro rfl rfl))
        | (with_reducible refine thenQ_n ?_)
        | (with_reducible refine thenQ_exit ?_)
        | (with_reducible refine thenQ_ret ?_)
        | (with_reducible refine midQ_ret ?_)
        | (with_reducible refine midQ_exit ?_)
        | (with_reducible refine blockQ_same ?_)
        | (with_reducible refine blockQ_ne (by decide) ?_)
        | (with_reducible refine blockQ_ret ?_)
        | (with_reducible refine blockQ_n ?_)
        | (with_reducible refine AW.exit ?_)
        | (with_reducible refine AW.block ?_)
        | (with_reducible refine AW.cond_t rfl ?_)
        | (with_reducible refine AW.cond_f rfl ?_)
        | (with_reducible refine AW.cond_dec rfl (fun hc => ?_) (fun hc => ?_))
        | (with_reducible refine AW.cond rfl (fun hc => ?_) (fun hc => ?_) <;> try simp only [Bool.not_eq_eq_eq_not, Bool.not_true, Bool.not_false, decide_eq_true_eq, decide_eq_false_iff_not] at hc)
        | (with_reducible refine AW.seq ?_)
        | (with_reducible refine AW.skip ?_)
        | (with_reducible refine AW.ret ?_)
        | (with_reducible refine And.intro ?_ ?_)
        | (with_reducible intro hg; first | simp only [eq_false hg, decide_true, decide_false, and_true, true_and, and_false, false_and, not_true_eq_false, not_false_eq_true] | simp only [eq_true hg, decide_true, decide_false, and_true, true_and, and_false, false_and, not_true_eq_false, not_false_eq_true])
        | (with_reducible refine retQ_drop ?_; simp only [vRes, packRes, vLoad, vPart, lk, cond, Nat.reduceBEq, get_loc, getD_zero, getD_succ, true_and, List.length_cons, List.length_nil, Nat.reduceAdd, Nat.reduceLT, Nat.reduceLeDiff, List.take_succ_cons, List.take_zero, List.drop_succ_cons, List.drop_zero, vvar_2, vzero_2, vknd_2, vsn_2, vvar_3, vzero_3, vknd_3, vsn_3, vvar_4, vzero_4, vknd_4, vsn_4, vsl_22, vkn_22, vvar_22, vzero_22])
        )
      all_goals try (exfalso; omega)
      exact ⟨_, _, FinOk.drop hB (Pl.ids (by (repeat' (first | exact Pl.v _ | exact Pl.junk | exact Pl.rd rfl _ | exact pl_nil | refine pl_cons ?_ ?_ | refine Pl.agg ?_ | refine Pl.tup ?_ | refine Pl.rp ?_ | refine Pl.fn ?_)); (first | done | fail))), rfl, rfl⟩
theorem baseLt_set {n : Nat} {H l : List ABox} {j : Nat} {xs : List Int} (h : BaseLt n (H ++ l)) : BaseLt n (H ++ l.set j (.row false (.int .i64) xs)) := by
  intro k hk
  have hk' : k < (H ++ l).length := by simpa using hk
  have h1 := h k hk'
  by_cases e : k = H.length + j
  · subst e
    have hj : j < l.length := by simp at hk'; omega
    rw [show (H ++ l.set j (.row false (.int .i64) xs)).getD (H.length + j) .dead = .row false (.int .i64) xs by
      simp only [List.getD]; rw [List.getElem?_append_right (by omega), Nat.add_sub_cancel_left, List.getElem?_set_self hj]; rfl]
    exact fun i q _ hq => ETy.enc_ids _ rfl _ q hq
  · rw [show (H ++ l.set j (.row false (.int .i64) xs)).getD k .dead = (H ++ l).getD k .dead by
      simp only [List.getD]
      by_cases hH : k < H.length
      · rw [List.getElem?_append_left hH, List.getElem?_append_left hH]
      · rw [List.getElem?_append_right (by omega), List.getElem?_append_right (by omega), List.getElem?_set_ne (by omega)]]
    exact h1
theorem mark24_ac (c : Ch) (k : Int) (hx : c.1.length ≤ 10000000) (hy : c.2.length ≤ 10000000) (hk : 0 ≤ k ∧ k ≤ 1000000) (l : List ABox) (j1 j2 : Nat) (h12 : j1 ≠ j2) (h1 : l[j1]? = some (.row false (.int .i64) c.1)) (h2 : l[j2]? = some (.row false (.int .i64) c.2)) (H : List ABox) :
    AC Try.prog 24 [.agg [.sl 1 (H.length + j1) 0 (c.1.length), .sl 1 (H.length + j2) 0 (c.2.length)], .v (.int .i64 (k))] (H ++ l) (fun r H' => r = .v (.int .i64 (k + c.1.length + c.2.length)) ∧ H' = H ++ (l.set j1 (.row false (.int .i64) (marks k c.1.length))).set j2 (.row false (.int .i64) (marks (k + c.1.length) c.2.length))) := by
  obtain ⟨B, hBe⟩ : ∃ B, B = H ++ l := ⟨_, rfl⟩
  rw [← hBe]
  refine AC.enter envOk Try.func24 rfl (by decide) Try.ntmps24 Try.results24 (by simp) fun hB => ?_
  repeat' (first
    | (with_reducible refine AW.sreg envOk fun K hK => ?_)
    | (with_reducible refine AW.region envOk fun K hK => ?_)
    | (with_reducible refine vcL_nil ?_)
    | (with_reducible (first | refine vcL_cons fun K' hK' => ?_); simp only [isC, Bool.false_or, Bool.or_true, vAppend, elems, ↓reduceDIte, List.take_length, Nat.le_refl, List.drop_zero, vGuard, undef, Bool.not_eq_eq_eq_not, dstOk, vcOp, vcF, isPure, putS, vcCall, St.ev, St.put, lk, AVal.ofVal, initS, Nat.reduceLT, true_and, and_true, vBin, vUn, vPick, vConv, vPart, vLoad, vStore, vIdxA, vIdx, vFldA, vExt, vLen, vMin, vNil, vAlloc, vBox, vBuild, vBuildSl, vMake, vSlice, bnd, partsA, fillA, decAll, AVal.flat, AVal.cell, cellsOk, setRange, ETy.enc, ETy.dec, ETy.sz, ETy.d, cond, Nat.reduceBEq, Nat.reduceAdd, Int.toNat_natCast, List.length_set, List.length_append, List.length_replicate, List.length_take, Nat.reduceSub, Nat.reduceEqDiff, get_loc, setBox_loc, next_eq, List.length_cons, List.length_nil, List.map_cons, List.map_nil, List.append_nil, List.nil_append, List.cons_append, List.set_cons_zero, List.set_cons_succ, getD_zero, getD_succ, List.getElem?_cons_succ, List.getElem?_cons_zero, List.take_succ_cons, List.take_zero, List.drop_succ_cons, List.drop_zero, List.all_cons, List.all_nil, Bool.and_true, Bool.true_and, Option.bind_some, Option.map_some, Option.map_none, decide_eq_true_eq, decide_eq_false_iff_not, ne_eq, Bool.not_eq_true, Bool.not_eq_false, Decidable.not_not, not_true_eq_false, not_false_eq_true, forall_const, false_implies, Bool.true_eq_false, Bool.false_eq_true, reduceCtorEq, decide_true, decide_false, Bool.not_true, Bool.not_false, if_true, if_false, Nat.zero_add, Nat.lt_irrefl, Value.oneCell', gt_iff_lt, Nat.reduceLeDiff, Nat.lt_add_one, List.length_append, vSealSl, vMakeMap, vLookup, vMapUpd, vMapEnt, vEntSt, vRange, vEntry, KK.of, KK.av, lkRes, entry_last, vvar_3, vzero_3, vknd_3, vsn_3, vsl_22, vkn_22, vvar_22, vzero_22, vvar_27, vzero_27, vbld_27, vfld_27_0, vfld_27_1]; try simp (disch := omega) only [wrap64])
    | (with_reducible refine hK' _ ?_; clear hK' K')
    | (with_reducible refine hK _ ?_; clear hK K)
    | (with_reducible refine And.intro (And.intro rfl rfl) ?_)
    | (with_reducible refine And.intro (by omega) ?_)
    | (with_reducible refine And.intro (fun hg => ?_) (fun hg => ?_) <;> first | simp only [eq_false hg, decide_true, decide_false, and_true, true_and, and_false, false_and, not_true_eq_false, not_false_eq_true] | simp only [eq_true hg, decide_true, decide_false, and_true, true_and, and_false, false_and, not_true_eq_false, not_false_eq_true] | simp only [hg, decide_true, decide_false, and_true, true_and, and_false, false_and, not_true_eq_false, not_false_eq_true])
    | (with_reducible refine And.intro rfl (And.intro rfl rfl))
    | (with_reducible refine thenQ_n ?_)
    | (with_reducible refine thenQ_exit ?_)
    | (with_reducible refine thenQ_ret ?_)
    | (with_reducible refine midQ_ret ?_)
    | (with_reducible refine midQ_exit ?_)
    | (with_reducible refine blockQ_same ?_)
    | (with_reducible refine blockQ_ne (by decide) ?_)
    | (with_reducible refine blockQ_ret ?_)
    | (with_reducible refine blockQ_n ?_)
    | (with_reducible refine AW.exit ?_)
    | (with_reducible refine AW.block ?_)
    | (with_reducible refine AW.cond_t rfl ?_)
    | (with_reducible refine AW.cond_f rfl ?_)
    | (with_reducible refine AW.cond_dec rfl (fun hc => ?_) (fun hc => ?_))
    | (with_reducible refine AW.cond rfl (fun hc => ?_) (fun hc => ?_) <;> try simp only [Bool.not_eq_eq_eq_not, Bool.not_true, Bool.not_false, decide_eq_true_eq, decide_eq_false_iff_not] at hc)
    | (with_reducible refine AW.seq ?_)
    | (with_reducible refine AW.skip ?_)
    | (with_reducible refine AW.ret ?_)
    | (with_reducible refine And.intro ?_ ?_)
    | (with_reducible intro hg; first | simp only [eq_false hg, decide_true, decide_false, and_true, true_and, and_false, false_and, not_true_eq_false, not_false_eq_true] | simp only [eq_true hg, decide_true, decide_false, and_true, true_and, and_false, false_and, not_true_eq_false, not_false_eq_true])
    | (with_reducible refine retQ_drop ?_; simp only [vRes, packRes, vLoad, vPart, lk, cond, Nat.reduceBEq, get_loc, getD_zero, getD_succ, true_and, List.length_cons, List.length_nil, Nat.reduceAdd, Nat.reduceLT, Nat.reduceLeDiff, List.take_succ_cons, List.take_zero, List.drop_succ_cons, List.drop_zero, vvar_3, vzero_3, vknd_3, vsn_3, vsl_22, vkn_22, vvar_22, vzero_22, vvar_27, vzero_27, vbld_27, vfld_27_0, vfld_27_1])
    )
  refine vCall_toB (b' := H ++ l.set j1 (.row false (.int .i64) (marks k c.1.length))) (hBe ▸ mark25o_ac c.1 k (by omega) (by omega) l j1 h1 H _) (by simp [hBe]) ?_
  obtain ⟨B2, hB2⟩ : ∃ B, B = H ++ l.set j1 (.row false (.int .i64) (marks k c.1.length)) := ⟨_, rfl⟩
  rw [← hB2, show B.length = B2.length by simp [hBe, hB2]]
  repeat' (first
    | (with_reducible refine AW.sreg envOk fun K hK => ?_)
    | (with_reducible refine AW.region envOk fun K hK => ?_)
    | (with_reducible refine vcL_nil ?_)
    | (with_reducible (first | refine vcL_cons fun K' hK' => ?_); simp only [isC, Bool.false_or, Bool.or_true, vAppend, elems, ↓reduceDIte, List.take_length, Nat.le_refl, List.drop_zero, vGuard, undef, Bool.not_eq_eq_eq_not, dstOk, vcOp, vcF, isPure, putS, vcCall, St.ev, St.put, lk, AVal.ofVal, initS, Nat.reduceLT, true_and, and_true, vBin, vUn, vPick, vConv, vPart, vLoad, vStore, vIdxA, vIdx, vFldA, vExt, vLen, vMin, vNil, vAlloc, vBox, vBuild, vBuildSl, vMake, vSlice, bnd, partsA, fillA, decAll, AVal.flat, AVal.cell, cellsOk, setRange, ETy.enc, ETy.dec, ETy.sz, ETy.d, cond, Nat.reduceBEq, Nat.reduceAdd, Int.toNat_natCast, List.length_set, List.length_append, List.length_replicate, List.length_take, Nat.reduceSub, Nat.reduceEqDiff, get_loc, setBox_loc, next_eq, List.length_cons, List.length_nil, List.map_cons, List.map_nil, List.append_nil, List.nil_append, List.cons_append, List.set_cons_zero, List.set_cons_succ, getD_zero, getD_succ, List.getElem?_cons_succ, List.getElem?_cons_zero, List.take_succ_cons, List.take_zero, List.drop_succ_cons, List.drop_zero, List.all_cons, List.all_nil, Bool.and_true, Bool.true_and, Option.bind_some, Option.map_some, Option.map_none, decide_eq_true_eq, decide_eq_false_iff_not, ne_eq, Bool.not_eq_true, Bool.not_eq_false, Decidable.not_not, not_true_eq_false, not_false_eq_true, forall_const, false_implies, Bool.true_eq_false, Bool.false_eq_true, reduceCtorEq, decide_true, decide_false, Bool.not_true, Bool.not_false, if_true, if_false, Nat.zero_add, Nat.lt_irrefl, Value.oneCell', gt_iff_lt, Nat.reduceLeDiff, Nat.lt_add_one, List.length_append, vSealSl, vMakeMap, vLookup, vMapUpd, vMapEnt, vEntSt, vRange, vEntry, KK.of, KK.av, lkRes, entry_last, vvar_3, vzero_3, vknd_3, vsn_3, vsl_22, vkn_22, vvar_22, vzero_22, vvar_27, vzero_27, vbld_27, vfld_27_0, vfld_27_1]; try simp (disch := omega) only [wrap64])
    | (with_reducible refine hK' _ ?_; clear hK' K')
    | (with_reducible refine hK _ ?_; clear hK K)
    | (with_reducible refine And.intro (And.intro rfl rfl) ?_)
    | (with_reducible refine And.intro (by omega) ?_)
    | (with_reducible refine And.intro (fun hg => ?_) (fun hg => ?_) <;> first | simp only [eq_false hg, decide_true, decide_false, and_true, true_and, and_false, false_and, not_true_eq_false, not_false_eq_true] | simp only [eq_true hg, decide_true, decide_false, and_true, true_and, and_false, false_and, not_true_eq_false, not_false_eq_true] | simp only [hg, decide_true, decide_false, and_true, true_and, and_false, false_and, not_true_eq_false, not_false_eq_true])
    | (with_reducible refine And.intro rfl (And.intro rfl rfl))
    | (with_reducible refine thenQ_n ?_)
    | (with_reducible refine thenQ_exit ?_)
    | (with_reducible refine thenQ_ret ?_)
    | (with_reducible refine midQ_ret ?_)
    | (with_reducible refine midQ_exit ?_)
    | (with_reducible refine blockQ_same ?_)
    | (with_reducible refine blockQ_ne (by decide) ?_)
    | (with_reducible refine blockQ_ret ?_)
    | (with_reducible refine blockQ_n ?_)
    | (with_reducible refine AW.exit ?_)
    | (with_reducible refine AW.block ?_)
    | (with_reducible refine AW.cond_t rfl ?_)
    | (with_reducible refine AW.cond_f rfl ?_)
    | (with_reducible refine AW.cond_dec rfl (fun hc => ?_) (fun hc => ?_))
    | (with_reducible refine AW.cond rfl (fun hc => ?_) (fun hc => ?_) <;> try simp only [Bool.not_eq_eq_eq_not, Bool.not_true, Bool.not_false, decide_eq_true_eq, decide_eq_false_iff_not] at hc)
    | (with_reducible refine AW.seq ?_)
    | (with_reducible refine AW.skip ?_)
    | (with_reducible refine AW.ret ?_)
    | (with_reducible refine And.intro ?_ ?_)
    | (with_reducible intro hg; first | simp only [eq_false hg, decide_true, decide_false, and_true, true_and, and_false, false_and, not_true_eq_false, not_false_eq_true] | simp only [eq_true hg, decide_true, decide_false, and_true, true_and, and_false, false_and, not_true_eq_false, not_false_eq_true])
    | (with_reducible refine retQ_drop ?_; simp only [vRes, packRes, vLoad, vPart, lk, cond, Nat.reduceBEq, get_loc, getD_zero, getD_succ, true_and, List.length_cons, List.length_nil, Nat.reduceAdd, Nat.reduceLT, Nat.reduceLeDiff, List.take_succ_cons, List.take_zero, List.drop_succ_cons, List.drop_zero, vvar_3, vzero_3, vknd_3, vsn_3, vsl_22, vkn_22, vvar_22, vzero_22, vvar_27, vzero_27, vbld_27, vfld_27_0, vfld_27_1])
    )
  refine vCall_toB (b' := H ++ (l.set j1 (.row false (.int .i64) (marks k c.1.length))).set j2 (.row false (.int .i64) (marks (k + c.1.length) c.2.length))) (hB2 ▸ mark25o_ac c.2 (k + c.1.length) (by omega) (by omega) (l.set j1 (.row false (.int .i64) (marks k c.1.length))) j2 (by rw [List.getElem?_set_ne h12]; exact h2) H _) (by simp [hB2]) ?_
  have hB3 : BaseLt B.length (H ++ (l.set j1 (.row false (.int .i64) (marks k c.1.length))).set j2 (.row false (.int .i64) (marks (k + c.1.length) c.2.length))) := by
    exact baseLt_set (baseLt_set (hBe ▸ hB))
  obtain ⟨B3, hB4⟩ : ∃ B, B = H ++ (l.set j1 (.row false (.int .i64) (marks k c.1.length))).set j2 (.row false (.int .i64) (marks (k + c.1.length) c.2.length)) := ⟨_, rfl⟩
  rw [← hB4] at hB3 ⊢
  repeat' (first
    | (with_reducible refine AW.sreg envOk fun K hK => ?_)
    | (with_reducible refine AW.region envOk fun K hK => ?_)
    | (with_reducible refine vcL_nil ?_)
    | (with_reducible (first | refine vcL_cons fun K' hK' => ?_); simp only [isC, Bool.false_or, Bool.or_true, vAppend, elems, ↓reduceDIte, List.take_length, Nat.le_refl, List.drop_zero, vGuard, undef, Bool.not_eq_eq_eq_not, dstOk, vcOp, vcF, isPure, putS, vcCall, St.ev, St.put, lk, AVal.ofVal, initS, Nat.reduceLT, true_and, and_true, vBin, vUn, vPick, vConv, vPart, vLoad, vStore, vIdxA, vIdx, vFldA, vExt, vLen, vMin, vNil, vAlloc, vBox, vBuild, vBuildSl, vMake, vSlice, bnd, partsA, fillA, decAll, AVal.flat, AVal.cell, cellsOk, setRange, ETy.enc, ETy.dec, ETy.sz, ETy.d, cond, Nat.reduceBEq, Nat.reduceAdd, Int.toNat_natCast, List.length_set, List.length_append, List.length_replicate, List.length_take, Nat.reduceSub, Nat.reduceEqDiff, get_loc, setBox_loc, next_eq, List.length_cons, List.length_nil, List.map_cons, List.map_nil, List.append_nil, List.nil_append, List.cons_append, List.set_cons_zero, List.set_cons_succ, getD_zero, getD_succ, List.getElem?_cons_succ, List.getElem?_cons_zero, List.take_succ_cons, List.take_zero, List.drop_succ_cons, List.drop_zero, List.all_cons, List.all_nil, Bool.and_true, Bool.true_and, Option.bind_some, Option.map_some, Option.map_none, decide_eq_true_eq, decide_eq_false_iff_not, ne_eq, Bool.not_eq_true, Bool.not_eq_false, Decidable.not_not, not_true_eq_false, not_false_eq_true, forall_const, false_implies, Bool.true_eq_false, Bool.false_eq_true, reduceCtorEq, decide_true, decide_false, Bool.not_true, Bool.not_false, if_true, if_false, Nat.zero_add, Nat.lt_irrefl, Value.oneCell', gt_iff_lt, Nat.reduceLeDiff, Nat.lt_add_one, List.length_append, vSealSl, vMakeMap, vLookup, vMapUpd, vMapEnt, vEntSt, vRange, vEntry, KK.of, KK.av, lkRes, entry_last, vvar_3, vzero_3, vknd_3, vsn_3, vsl_22, vkn_22, vvar_22, vzero_22, vvar_27, vzero_27, vbld_27, vfld_27_0, vfld_27_1]; try simp (disch := omega) only [wrap64])
    | (with_reducible refine hK' _ ?_; clear hK' K')
    | (with_reducible refine hK _ ?_; clear hK K)
    | (with_reducible refine And.intro (And.intro rfl rfl) ?_)
    | (with_reducible refine And.intro (by omega) ?_)
    | (with_reducible refine And.intro (fun hg => ?_) (fun hg => ?_) <;> first | simp only [eq_false hg, decide_true, decide_false, and_true, true_and, and_false, false_and, not_true_eq_false, not_false_eq_true] | simp only [eq_true hg, decide_true, decide_false, and_true, true_and, and_false, false_and, not_true_eq_false, not_false_eq_true] | simp only [hg, decide_true, decide_false, and_true, true_and, and_false, false_and, not_true_eq_false, not_false_eq_true])
    | (with_reducible refine And.intro rfl (And.intro rfl rfl))
    | (with_reducible refine thenQ_n ?_)
    | (with_reducible refine thenQ_exit ?_)
    | (with_reducible refine thenQ_ret ?_)
    | (with_reducible refine midQ_ret ?_)
    | (with_reducible refine midQ_exit ?_)
    | (with_reducible refine blockQ_same ?_)
    | (with_reducible refine blockQ_ne (by decide) ?_)
    | (with_reducible refine blockQ_ret ?_)
    | (with_reducible refine blockQ_n ?_)
    | (with_reducible refine AW.exit ?_)
    | (with_reducible refine AW.block ?_)
    | (with_reducible refine AW.cond_t rfl ?_)
    | (with_reducible refine AW.cond_f rfl ?_)
    | (with_reducible refine AW.cond_dec rfl (fun hc => ?_) (fun hc => ?_))
    | (with_reducible refine AW.cond rfl (fun hc => ?_) (fun hc => ?_) <;> try simp only [Bool.not_eq_eq_eq_not, Bool.not_true, Bool.not_false, decide_eq_true_eq, decide_eq_false_iff_not] at hc)
    | (with_reducible refine AW.seq ?_)
    | (with_reducible refine AW.skip ?_)
    | (with_reducible refine AW.ret ?_)
    | (with_reducible refine And.intro ?_ ?_)
    | (with_reducible intro hg; first | simp only [eq_false hg, decide_true, decide_false, and_true, true_and, and_false, false_and, not_true_eq_false, not_false_eq_true] | simp only [eq_true hg, decide_true, decide_false, and_true, true_and, and_false, false_and, not_true_eq_false, not_false_eq_true])
    | (with_reducible refine retQ_drop ?_; simp only [vRes, packRes, vLoad, vPart, lk, cond, Nat.reduceBEq, get_loc, getD_zero, getD_succ, true_and, List.length_cons, List.length_nil, Nat.reduceAdd, Nat.reduceLT, Nat.reduceLeDiff, List.take_succ_cons, List.take_zero, List.drop_succ_cons, List.drop_zero, vvar_3, vzero_3, vknd_3, vsn_3, vsl_22, vkn_22, vvar_22, vzero_22, vvar_27, vzero_27, vbld_27, vfld_27_0, vfld_27_1])
    )
  exact ⟨_, _, FinOk.drop hB3 (.v _) (by rw [hB4, hBe]; simp), rfl, hB4⟩
end Go.Proofs.Ytdphlhplcmjepaa
end

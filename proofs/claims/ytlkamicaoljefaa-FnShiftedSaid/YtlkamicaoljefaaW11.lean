/- Walks: the wires of a river. -/
import Derived.Test.YtlkamicaoljefaaW10
import Derived.Test.YtlkamicaoljefaaEngZ
set_option linter.unusedSimpArgs false
set_option linter.unusedVariables false
set_option maxHeartbeats 1000000
namespace Go.Proofs.Ytlkamicaoljefaa
open Go.Eng

/-- To which place the wire goes in a track. -/
def trackTo (xs ys : List Int) (i k : Nat) : Int :=
  if ys.getD i 0 < xs.getD i 0 ∧ i + k < xs.length then min (xs.getD i 0) (ys.getD (i + k) 0 - k)
  else if xs.getD i 0 < ys.getD i 0 ∧ k ≤ i then max (xs.getD i 0) (ys.getD (i - k) 0 + k) else xs.getD i 0
def xAt (xs ys : List Int) (i : Nat) : Nat → Int
  | 0 => ys.getD i 0
  | k + 1 => trackTo xs ys i (k + 1)
/-- The path behind k tracks. -/
def pathTo (xs ys : List Int) (i : Nat) : Nat → List (Int × Int)
  | 0 => [(ys.getD i 0, 0)]
  | k + 1 => pathTo xs ys i k ++ [(xAt xs ys i k, (k : Int) + 1)] ++ lineTo (xAt xs ys i k, (k : Int) + 1) (xAt xs ys i (k + 1), (k : Int) + 1)
def pathF (xs ys : List Int) (t i : Nat) : List (Int × Int) := pathTo xs ys i t ++ [(xAt xs ys i t, (t : Int) + 1)]

theorem RiverOk.up {xs ys : List Int} (h : RiverOk xs ys) {a b : Nat} (hab : a + 1 = b) (hb : b < ys.length) : ys.getD a 0 + 1 ≤ ys.getD b 0 := by
  have := (h.2.2.2 b hb).2 (by omega)
  rw [show b - 1 = a by omega] at this
  omega
theorem xAt_near {xs ys : List Int} (h : RiverOk xs ys) {i : Nat} (hi : i < xs.length) : ∀ k : Nat, -1000 - (k : Int) ≤ xAt xs ys i k ∧ xAt xs ys i k ≤ 1000 + k := by
  obtain ⟨_, _, _, _, hx, hy⟩ := h.small (t := 0) (by omega) (s := 0) (by omega)
  intro k
  have x1 := hx i; have y1 := hy i
  cases k with
  | zero => simp only [xAt]; omega
  | succ k =>
    have y2 := hy (i + (k + 1)); have y3 := hy (i - (k + 1))
    simp only [xAt, trackTo]
    split
    · omega
    · split <;> omega
/-- The reference's way to find the place says the same. -/
theorem track_eq {xs ys : List Int} (h : RiverOk xs ys) {i : Nat} (hi : i < xs.length) (k : Nat) :
    (if xAt xs ys i k < xs.getD i 0 ∧ i + (k + 1) < xs.length then min (xs.getD i 0) (ys.getD (i + (k + 1)) 0 - ((k : Int) + 1))
     else if xs.getD i 0 < xAt xs ys i k ∧ k + 1 ≤ i then max (xs.getD i 0) (ys.getD (i - (k + 1)) 0 + ((k : Int) + 1)) else xs.getD i 0) = xAt xs ys i (k + 1) := by
  have hl : ys.length = xs.length := by have := h.2.1; omega
  cases k with
  | zero => rfl
  | succ j =>
    simp only [xAt, trackTo]
    have h1 : i + (j + 1 + 1) < xs.length → ys.getD (i + (j + 1)) 0 + 1 ≤ ys.getD (i + (j + 1 + 1)) 0 := fun hh => h.up (by omega) (by omega)
    have h2 : j + 1 + 1 ≤ i → ys.getD (i - (j + 1 + 1)) 0 + 1 ≤ ys.getD (i - (j + 1)) 0 := fun hh => h.up (by omega) (by omega)
    have e1 : ((j + 1 : Nat) : Int) = (j : Int) + 1 := by omega
    have e2 : ((j + 1 + 1 : Nat) : Int) = (j : Int) + 1 + 1 := by omega
    simp only [e1, e2]
    generalize ys.getD (i + (j + 1)) 0 = a1 at *
    generalize ys.getD (i + (j + 1 + 1)) 0 = a2 at *
    generalize ys.getD (i - (j + 1)) 0 = b1 at *
    generalize ys.getD (i - (j + 1 + 1)) 0 = b2 at *
    generalize ys.getD i 0 = y at *
    generalize xs.getD i 0 = x at *
    by_cases c1 : i + (j + 1 + 1) < xs.length
    · have := h1 c1
      have c2 : i + (j + 1) < xs.length := by omega
      simp only [c1, c2, and_true]
      by_cases c3 : j + 1 + 1 ≤ i
      · have := h2 c3
        have c4 : j + 1 ≤ i := by omega
        simp only [c3, c4, and_true]
        repeat' split
        all_goals omega
      · simp only [c3, and_false, if_false]
        by_cases c4 : j + 1 ≤ i
        · simp only [c4, and_true]
          repeat' split
          all_goals omega
        · simp only [c4, and_false, if_false]
          repeat' split
          all_goals omega
    · simp only [c1, and_false, if_false]
      by_cases c3 : j + 1 + 1 ≤ i
      · have := h2 c3
        have c4 : j + 1 ≤ i := by omega
        simp only [c3, c4, and_true]
        repeat' split
        all_goals omega
      · simp only [c3, and_false, if_false]
theorem lineTo_up (x k : Int) : lineTo (x, k) (x, k + 1) = [(x, k + 1)] := by
  rw [lineTo_step (fun e => by have := congrArg Prod.snd e; simp at this; omega)]
  have : stepTo (x, k) (x, k + 1) = (x, k + 1) := by
    unfold stepTo sgn; simp only; rw [show x - x = 0 by omega, show k + 1 - k = 1 by omega]; simp
  rw [this, lineTo_same]
theorem pathTo_len {xs ys : List Int} (h : RiverOk xs ys) {i : Nat} (hi : i < xs.length) : ∀ k, k ≤ 20 → (pathTo xs ys i k).length ≤ 1 + 40001 * k
  | 0, _ => by simp [pathTo]
  | k + 1, hk => by
    have h1 := pathTo_len h hi k (by omega)
    have h2 := xAt_near h hi k
    have h3 := xAt_near h hi (k + 1)
    have h4 := lineTo_len _ (xAt xs ys i k, (k : Int) + 1) (xAt xs ys i (k + 1), (k : Int) + 1) rfl
    have h5 : gap (xAt xs ys i k, (k : Int) + 1) (xAt xs ys i (k + 1), (k : Int) + 1) ≤ 40000 := gap_near (by unfold Near; simp only; omega) (by unfold Near; simp only; omega)
    simp only [pathTo, List.length_append, List.length_cons, List.length_nil]
    omega
theorem toNat_add3 (i k : Nat) : ((i : Int) + ((k : Int) + 1)).toNat = i + (k + 1) := by omega
theorem toNat_sub3 (i k : Nat) : ((i : Int) - ((k : Int) + 1)).toNat = i - (k + 1) := by omega

theorem wire95_ac (xs ys : List Int) (t i : Nat) (hr : RiverOk xs ys) (hi : i < xs.length) (ht : t ≤ 20) (H : List ABox) : AC Try.prog 95 [.rd (.int .i64) (xs), .rd (.int .i64) (ys), .v (.int .i64 ((t : Int))), .v (.int .i64 ((i : Int)))] H
    (fun r H' => r = .rd .pt (pathF xs ys t i) ∧ H' = H) := by
  have hl0 := hr.1
  have hl1 := hr.2.1
  obtain ⟨_, _, _, _, hx, hy⟩ := hr.small (t := 0) (by omega) (s := 0) (by omega)
  refine AC.enter envOk Try.func95 rfl (by decide) Try.ntmps95 Try.results95 (by simp) fun hB => ?_
  repeat' (first
    | (with_reducible refine AW.sreg envOk fun K hK => ?_)
    | (with_reducible refine AW.region envOk fun K hK => ?_)
    | (with_reducible refine vcL_nil ?_)
    | (with_reducible refine vcL_cons fun K' hK' => ?_; simp only [vAppend, elems, ↓reduceDIte, List.take_length, Nat.le_refl, List.drop_zero, vGuard, undef, Bool.not_eq_eq_eq_not, dstOk, vcOp, vcF, isPure, putS, vcCall, St.ev, St.put, lk, AVal.ofVal, initS, Nat.reduceLT, true_and, and_true, vBin, vUn, vPick, vConv, vPart, vLoad, vStore, vIdxA, vIdx, vFldA, vExt, vLen, vMin, vNil, vAlloc, vBox, vBuild, vBuildSl, vMake, vSlice, bnd, partsA, fillA, decAll, AVal.flat, AVal.cell, cellsOk, setRange, ETy.enc, ETy.dec, ETy.sz, ETy.d, cond, Nat.reduceBEq, Nat.reduceAdd, Int.toNat_natCast, List.length_set, List.length_append, List.length_replicate, List.length_take, Nat.reduceSub, Nat.reduceEqDiff, get_loc, setBox_loc, next_eq, List.length_cons, List.length_nil, List.map_cons, List.map_nil, List.append_nil, List.nil_append, List.cons_append, List.set_cons_zero, List.set_cons_succ, getD_zero, getD_succ, List.getElem?_cons_succ, List.getElem?_cons_zero, List.take_succ_cons, List.take_zero, List.drop_succ_cons, List.drop_zero, List.all_cons, List.all_nil, Bool.and_true, Bool.true_and, Option.bind_some, Option.map_some, Option.map_none, decide_eq_true_eq, decide_eq_false_iff_not, ne_eq, Bool.not_eq_true, Bool.not_eq_false, Decidable.not_not, not_true_eq_false, not_false_eq_true, forall_const, false_implies, Bool.true_eq_false, Bool.false_eq_true, reduceCtorEq, decide_true, decide_false, Bool.not_true, Bool.not_false, if_true, if_false, Nat.zero_add, Nat.lt_irrefl, Value.oneCell', gt_iff_lt, Nat.reduceLeDiff, Nat.lt_add_one, List.length_append, vvar_1, vzero_1, vvar_2, vzero_2, vknd_2, vsn_2, vvar_3, vzero_3, vknd_3, vsn_3, vvar_4, vzero_4, vknd_4, vsn_4, vvar_26, vzero_26, vbld_26, vpts_26, vsl_33, vkn_33, vvar_33, vzero_33, vsl_43, vkn_43, vvar_43, vzero_43]; try simp (disch := omega) only [wrap64])
    | (with_reducible refine hK' _ ?_; clear hK' K')
    | (with_reducible refine hK _ ?_; clear hK K)
    | (with_reducible refine And.intro (And.intro rfl rfl) ?_)
    | (with_reducible refine And.intro (by omega) ?_)
    | (with_reducible refine And.intro (fun hg => ?_) (fun hg => ?_) <;> first | simp only [eq_false hg, decide_true, decide_false, and_true, true_and, and_false, false_and, not_true_eq_false, not_false_eq_true] | simp only [eq_true hg, decide_true, decide_false, and_true, true_and, and_false, false_and, not_true_eq_false, not_false_eq_true] | simp only [hg, decide_true, decide_false, and_true, true_and, and_false, false_and, not_true_eq_false, not_false_eq_true])
    | (with_reducible refine And.intro rfl (And.intro rfl rfl))
    | (with_reducible refine thenQ_n ?_)
    | (with_reducible refine thenQ_exit ?_)
    | (with_reducible refine thenQ_ret ?_)
    | (with_reducible refine midQ_ret ?_)
    | (with_reducible refine midQ_exit ?_)
    | (with_reducible refine blockQ_same ?_)
    | (with_reducible refine blockQ_ret ?_)
    | (with_reducible refine blockQ_n ?_)
    | (with_reducible refine AW.exit ?_)
    | (with_reducible refine AW.block ?_)
    | (with_reducible refine AW.cond_t rfl ?_)
    | (with_reducible refine AW.cond_f rfl ?_)
    | (with_reducible refine AW.cond_dec rfl (fun hc => ?_) (fun hc => ?_))
    | (with_reducible refine AW.cond rfl (fun hc => ?_) (fun hc => ?_) <;> try simp only [Bool.not_eq_eq_eq_not, Bool.not_true, Bool.not_false, decide_eq_true_eq, decide_eq_false_iff_not] at hc)
    | (with_reducible refine AW.seq ?_)
    | (with_reducible refine AW.skip ?_)
    | (with_reducible refine AW.ret ?_)
    | (with_reducible refine And.intro ?_ ?_)
    | (with_reducible intro hg; first | simp only [eq_false hg, decide_true, decide_false, and_true, true_and, and_false, false_and, not_true_eq_false, not_false_eq_true] | simp only [eq_true hg, decide_true, decide_false, and_true, true_and, and_false, false_and, not_true_eq_false, not_false_eq_true])
    | (with_reducible refine retQ_drop ?_; simp only [vRes, packRes, vLoad, vPart, lk, cond, Nat.reduceBEq, get_loc, getD_zero, getD_succ, true_and, List.length_cons, List.length_nil, Nat.reduceAdd, Nat.reduceLT, Nat.reduceLeDiff, List.take_succ_cons, List.take_zero, List.drop_succ_cons, List.drop_zero, vvar_1, vzero_1, vvar_2, vzero_2, vknd_2, vsn_2, vvar_3, vzero_3, vknd_3, vsn_3, vvar_4, vzero_4, vknd_4, vsn_4, vvar_26, vzero_26, vbld_26, vpts_26, vsl_33, vkn_33, vvar_33, vzero_33, vsl_43, vkn_43, vvar_43, vzero_43])
    )
  refine AW.loop (fun k : Nat => (⟨97, [(0, .rd (.int .i64) (xs)), (1, .rd (.int .i64) (ys)), (2, .v (.int .i64 ((t : Int)))), (3, .v (.int .i64 ((i : Int)))), (9, .v (.int .i64 (xAt xs ys i k))), (10, .sl 2 (H.length + 0) 0 ((pathTo xs ys i k).length)), (11, .v (.int .i64 ((k : Int) + 1)))], H, [.row false .pt (pathTo xs ys i k)]⟩ : St)) (fun k => k ≤ t) (fun k => t - k) 0 (Nat.zero_le _) (Weak.slots (by repeat' first | exact trivial | exact ⟨rfl, trivial⟩ | refine ⟨rfl, ?_⟩)) ?_
  intro k hk
  have hlen := pathTo_len hr hi k (by omega)
  have n1 := xAt_near hr hi k
  have n2 := xAt_near hr hi (k + 1)
  have hs := track_eq hr hi k
  have x1 := hx i; have y1 := hy i; have y2 := hy (i + (k + 1)); have y3 := hy (i - (k + 1))
  obtain ⟨L0, hL0⟩ : ∃ L0, L0 = pathTo xs ys i k ++ [(xAt xs ys i k, (k : Int) + 1)] := ⟨_, rfl⟩
  have hL0l : L0.length = (pathTo xs ys i k).length + 1 := by rw [hL0]; simp
  repeat' (first
    | (with_reducible refine AW.sreg envOk fun K hK => ?_)
    | (with_reducible refine AW.region envOk fun K hK => ?_)
    | (with_reducible refine vcL_nil ?_)
    | (with_reducible refine vcL_cons fun K' hK' => ?_; simp only [vAppend, elems, ↓reduceDIte, List.take_length, Nat.le_refl, List.drop_zero, vGuard, undef, Bool.not_eq_eq_eq_not, dstOk, vcOp, vcF, isPure, putS, vcCall, St.ev, St.put, lk, AVal.ofVal, initS, Nat.reduceLT, true_and, and_true, vBin, vUn, vPick, vConv, vPart, vLoad, vStore, vIdxA, vIdx, vFldA, vExt, vLen, vMin, vNil, vAlloc, vBox, vBuild, vBuildSl, vMake, vSlice, bnd, partsA, fillA, decAll, AVal.flat, AVal.cell, cellsOk, setRange, ETy.enc, ETy.dec, ETy.sz, ETy.d, cond, Nat.reduceBEq, Nat.reduceAdd, Int.toNat_natCast, List.length_set, List.length_append, List.length_replicate, List.length_take, Nat.reduceSub, Nat.reduceEqDiff, get_loc, setBox_loc, next_eq, List.length_cons, List.length_nil, List.map_cons, List.map_nil, List.append_nil, List.nil_append, List.cons_append, List.set_cons_zero, List.set_cons_succ, getD_zero, getD_succ, List.getElem?_cons_succ, List.getElem?_cons_zero, List.take_succ_cons, List.take_zero, List.drop_succ_cons, List.drop_zero, List.all_cons, List.all_nil, Bool.and_true, Bool.true_and, Option.bind_some, Option.map_some, Option.map_none, decide_eq_true_eq, decide_eq_false_iff_not, ne_eq, Bool.not_eq_true, Bool.not_eq_false, Decidable.not_not, not_true_eq_false, not_false_eq_true, forall_const, false_implies, Bool.true_eq_false, Bool.false_eq_true, reduceCtorEq, decide_true, decide_false, Bool.not_true, Bool.not_false, if_true, if_false, Nat.zero_add, Nat.lt_irrefl, Value.oneCell', gt_iff_lt, Nat.reduceLeDiff, Nat.lt_add_one, List.length_append, vvar_1, vzero_1, vvar_2, vzero_2, vknd_2, vsn_2, vvar_3, vzero_3, vknd_3, vsn_3, vvar_4, vzero_4, vknd_4, vsn_4, vvar_26, vzero_26, vbld_26, vpts_26, vsl_33, vkn_33, vvar_33, vzero_33, vsl_43, vkn_43, vvar_43, vzero_43, toNat_add3, toNat_sub3]; try simp (disch := omega) only [wrap64])
    | (with_reducible refine hK' _ ?_; clear hK' K')
    | (with_reducible refine hK _ ?_; clear hK K)
    | (with_reducible refine vcC_pure (max107_ac _ _ _) ?_)
    | (with_reducible refine vCall_pure (max107_ac _ _ _) ?_)
    | (with_reducible refine vcC_pure (min108_ac _ _ _) ?_)
    | (with_reducible refine vCall_pure (min108_ac _ _ _) ?_)
    | (with_reducible refine AW.mid (x := .seq (.region 8 _ _) _) (⟨97, [(0, .rd (.int .i64) (xs)), (1, .rd (.int .i64) (ys)), (2, .v (.int .i64 ((t : Int)))), (3, .v (.int .i64 ((i : Int)))), (9, .v (.int .i64 (xAt xs ys i k))), (10, .sl 2 (H.length + 0) 0 (L0.length)), (11, .v (.int .i64 ((k : Int) + 1))), (12, .v (.int .i64 (xAt xs ys i (k + 1))))], H, [.row false .pt (L0)]⟩ : St) ?_ ?_)
    | (with_reducible refine And.intro (And.intro rfl rfl) ?_)
    | (with_reducible refine And.intro (by omega) ?_)
    | (with_reducible refine And.intro (fun hg => ?_) (fun hg => ?_) <;> first | simp only [eq_false hg, decide_true, decide_false, and_true, true_and, and_false, false_and, not_true_eq_false, not_false_eq_true] | simp only [eq_true hg, decide_true, decide_false, and_true, true_and, and_false, false_and, not_true_eq_false, not_false_eq_true] | simp only [hg, decide_true, decide_false, and_true, true_and, and_false, false_and, not_true_eq_false, not_false_eq_true])
    | (with_reducible refine And.intro rfl (And.intro rfl rfl))
    | (with_reducible refine thenQ_n ?_)
    | (with_reducible refine thenQ_exit ?_)
    | (with_reducible refine thenQ_ret ?_)
    | (with_reducible refine midQ_ret ?_)
    | (with_reducible refine midQ_exit ?_)
    | (with_reducible refine blockQ_same ?_)
    | (with_reducible refine blockQ_ret ?_)
    | (with_reducible refine blockQ_n ?_)
    | (with_reducible refine AW.exit ?_)
    | (with_reducible refine AW.block ?_)
    | (with_reducible refine AW.cond_t rfl ?_)
    | (with_reducible refine AW.cond_f rfl ?_)
    | (with_reducible refine AW.cond_dec rfl (fun hc => ?_) (fun hc => ?_))
    | (with_reducible refine AW.cond rfl (fun hc => ?_) (fun hc => ?_) <;> try simp only [Bool.not_eq_eq_eq_not, Bool.not_true, Bool.not_false, decide_eq_true_eq, decide_eq_false_iff_not] at hc)
    | (with_reducible refine AW.seq ?_)
    | (with_reducible refine AW.skip ?_)
    | (with_reducible refine AW.ret ?_)
    | (with_reducible refine And.intro ?_ ?_)
    | (with_reducible intro hg; first | simp only [eq_false hg, decide_true, decide_false, and_true, true_and, and_false, false_and, not_true_eq_false, not_false_eq_true] | simp only [eq_true hg, decide_true, decide_false, and_true, true_and, and_false, false_and, not_true_eq_false, not_false_eq_true])
    | (with_reducible refine retQ_drop ?_; simp only [vRes, packRes, vLoad, vPart, lk, cond, Nat.reduceBEq, get_loc, getD_zero, getD_succ, true_and, List.length_cons, List.length_nil, Nat.reduceAdd, Nat.reduceLT, Nat.reduceLeDiff, List.take_succ_cons, List.take_zero, List.drop_succ_cons, List.drop_zero, vvar_1, vzero_1, vvar_2, vzero_2, vknd_2, vsn_2, vvar_3, vzero_3, vknd_3, vsn_3, vvar_4, vzero_4, vknd_4, vsn_4, vvar_26, vzero_26, vbld_26, vpts_26, vsl_33, vkn_33, vvar_33, vzero_33, vsl_43, vkn_43, vvar_43, vzero_43])
    )
  case refine_2 =>
    obtain rfl : k = t := by omega
    exact ⟨_, _, FinOk.seal 2 .pt (pathF xs ys k i) hB (by simp) rfl (SealV.whole rfl (by simp [pathF])) (Pl.rd rfl _).ids, rfl, rfl⟩
  case refine_1.refine_2 =>
    refine AW.loop (fun z : Int × List (Int × Int) × List (Int × Int) => (⟨97, [(0, .rd (.int .i64) (xs)), (1, .rd (.int .i64) (ys)), (2, .v (.int .i64 ((t : Int)))), (3, .v (.int .i64 ((i : Int)))), (9, .v (.int .i64 (z.1))), (10, .sl 2 (H.length + 0) 0 (z.2.2.length)), (11, .v (.int .i64 ((k : Int) + 1))), (12, .v (.int .i64 (xAt xs ys i (k + 1))))], H, [.row false .pt (z.2.2)]⟩ : St))
      (fun z => Near (z.1, (k : Int) + 1) ∧ lineTo (xAt xs ys i k, (k : Int) + 1) (xAt xs ys i (k + 1), (k : Int) + 1) = z.2.1 ++ lineTo (z.1, (k : Int) + 1) (xAt xs ys i (k + 1), (k : Int) + 1) ∧ z.2.1.length + gap (z.1, (k : Int) + 1) (xAt xs ys i (k + 1), (k : Int) + 1) ≤ 40000 ∧ z.2.2 = L0 ++ z.2.1)
      (fun z => gap (z.1, (k : Int) + 1) (xAt xs ys i (k + 1), (k : Int) + 1)) (xAt xs ys i k, [], L0) ⟨by unfold Near; simp only; omega, rfl, by
        have := gap_near (p := (xAt xs ys i k, (k : Int) + 1)) (q := (xAt xs ys i (k + 1), (k : Int) + 1)) (by unfold Near; simp only; omega) (by unfold Near; simp only; omega)
        simp only [List.length_nil]; omega, by simp⟩ (Weak.slots (by repeat' first | exact trivial | exact ⟨rfl, trivial⟩ | refine ⟨rfl, ?_⟩)) ?_
    intro ⟨z, ws, L⟩ ⟨hz, hw, hg, hL⟩
    have hz' := hz
    unfold Near at hz'
    have hz1 := hz'.1
    clear hz'
    have s1 := sgn_cases (xAt xs ys i (k + 1) - z)
    simp only at hz1 hw hg s1 hL ⊢
    have hlen2 : L.length = L0.length + ws.length := by rw [hL]; simp
    repeat' (first
      | (with_reducible refine AW.sreg envOk fun K hK => ?_)
      | (with_reducible refine AW.region envOk fun K hK => ?_)
      | (with_reducible refine vcL_nil ?_)
      | (with_reducible refine vcL_cons fun K' hK' => ?_; simp only [vAppend, elems, ↓reduceDIte, List.take_length, Nat.le_refl, List.drop_zero, vGuard, undef, Bool.not_eq_eq_eq_not, dstOk, vcOp, vcF, isPure, putS, vcCall, St.ev, St.put, lk, AVal.ofVal, initS, Nat.reduceLT, true_and, and_true, vBin, vUn, vPick, vConv, vPart, vLoad, vStore, vIdxA, vIdx, vFldA, vExt, vLen, vMin, vNil, vAlloc, vBox, vBuild, vBuildSl, vMake, vSlice, bnd, partsA, fillA, decAll, AVal.flat, AVal.cell, cellsOk, setRange, ETy.enc, ETy.dec, ETy.sz, ETy.d, cond, Nat.reduceBEq, Nat.reduceAdd, Int.toNat_natCast, List.length_set, List.length_append, List.length_replicate, List.length_take, Nat.reduceSub, Nat.reduceEqDiff, get_loc, setBox_loc, next_eq, List.length_cons, List.length_nil, List.map_cons, List.map_nil, List.append_nil, List.nil_append, List.cons_append, List.set_cons_zero, List.set_cons_succ, getD_zero, getD_succ, List.getElem?_cons_succ, List.getElem?_cons_zero, List.take_succ_cons, List.take_zero, List.drop_succ_cons, List.drop_zero, List.all_cons, List.all_nil, Bool.and_true, Bool.true_and, Option.bind_some, Option.map_some, Option.map_none, decide_eq_true_eq, decide_eq_false_iff_not, ne_eq, Bool.not_eq_true, Bool.not_eq_false, Decidable.not_not, not_true_eq_false, not_false_eq_true, forall_const, false_implies, Bool.true_eq_false, Bool.false_eq_true, reduceCtorEq, decide_true, decide_false, Bool.not_true, Bool.not_false, if_true, if_false, Nat.zero_add, Nat.lt_irrefl, Value.oneCell', gt_iff_lt, Nat.reduceLeDiff, Nat.lt_add_one, List.length_append, vvar_1, vzero_1, vvar_2, vzero_2, vknd_2, vsn_2, vvar_3, vzero_3, vknd_3, vsn_3, vvar_4, vzero_4, vknd_4, vsn_4, vvar_26, vzero_26, vbld_26, vpts_26, vsl_33, vkn_33, vvar_33, vzero_33, vsl_43, vkn_43, vvar_43, vzero_43]; try simp (disch := omega) only [wrap64])
      | (with_reducible refine hK' _ ?_; clear hK' K')
      | (with_reducible refine hK _ ?_; clear hK K)
      | (with_reducible refine vcC_pure (sign_ac _ _) ?_)
      | (with_reducible refine vCall_pure (sign_ac _ _) ?_)
      | (with_reducible refine And.intro (And.intro rfl rfl) ?_)
      | (with_reducible refine And.intro (by omega) ?_)
      | (with_reducible refine And.intro (fun hg => ?_) (fun hg => ?_) <;> first | simp only [eq_false hg, decide_true, decide_false, and_true, true_and, and_false, false_and, not_true_eq_false, not_false_eq_true] | simp only [eq_true hg, decide_true, decide_false, and_true, true_and, and_false, false_and, not_true_eq_false, not_false_eq_true] | simp only [hg, decide_true, decide_false, and_true, true_and, and_false, false_and, not_true_eq_false, not_false_eq_true])
      | (with_reducible refine And.intro rfl (And.intro rfl rfl))
      | (with_reducible refine thenQ_n ?_)
      | (with_reducible refine thenQ_exit ?_)
      | (with_reducible refine thenQ_ret ?_)
      | (with_reducible refine midQ_ret ?_)
      | (with_reducible refine midQ_exit ?_)
      | (with_reducible refine blockQ_same ?_)
      | (with_reducible refine blockQ_ret ?_)
      | (with_reducible refine blockQ_n ?_)
      | (with_reducible refine AW.exit ?_)
      | (with_reducible refine AW.block ?_)
      | (with_reducible refine AW.cond_t rfl ?_)
      | (with_reducible refine AW.cond_f rfl ?_)
      | (with_reducible refine AW.cond_dec rfl (fun hc => ?_) (fun hc => ?_))
      | (with_reducible refine AW.cond rfl (fun hc => ?_) (fun hc => ?_) <;> try simp only [Bool.not_eq_eq_eq_not, Bool.not_true, Bool.not_false, decide_eq_true_eq, decide_eq_false_iff_not] at hc)
      | (with_reducible refine AW.seq ?_)
      | (with_reducible refine AW.skip ?_)
      | (with_reducible refine AW.ret ?_)
      | (with_reducible refine And.intro ?_ ?_)
      | (with_reducible intro hg; first | simp only [eq_false hg, decide_true, decide_false, and_true, true_and, and_false, false_and, not_true_eq_false, not_false_eq_true] | simp only [eq_true hg, decide_true, decide_false, and_true, true_and, and_false, false_and, not_true_eq_false, not_false_eq_true])
      | (with_reducible refine retQ_drop ?_; simp only [vRes, packRes, vLoad, vPart, lk, cond, Nat.reduceBEq, get_loc, getD_zero, getD_succ, true_and, List.length_cons, List.length_nil, Nat.reduceAdd, Nat.reduceLT, Nat.reduceLeDiff, List.take_succ_cons, List.take_zero, List.drop_succ_cons, List.drop_zero, vvar_1, vzero_1, vvar_2, vzero_2, vknd_2, vsn_2, vvar_3, vzero_3, vknd_3, vsn_3, vvar_4, vzero_4, vknd_4, vsn_4, vvar_26, vzero_26, vbld_26, vpts_26, vsl_33, vkn_33, vvar_33, vzero_33, vsl_43, vkn_43, vvar_43, vzero_43])
      )
    · have hstep : stepTo (z, (k : Int) + 1) (xAt xs ys i (k + 1), (k : Int) + 1) = (z + sgn (xAt xs ys i (k + 1) - z), (k : Int) + 1) := by
        unfold stepTo; simp only; rw [show (k : Int) + 1 - ((k : Int) + 1) = 0 by omega]; simp [sgn]
      have hne : (z, (k : Int) + 1) ≠ (xAt xs ys i (k + 1), (k : Int) + 1) := fun e => by
        have := congrArg Prod.fst e
        simp only at this; omega
      have hgap := gap_step hne
      rw [hstep] at hgap
      rw [lineTo_step hne, hstep] at hw
      refine ⟨(z + sgn (xAt xs ys i (k + 1) - z), ws ++ [(z + sgn (xAt xs ys i (k + 1) - z), (k : Int) + 1)], L ++ [(z + sgn (xAt xs ys i (k + 1) - z), (k : Int) + 1)]), ⟨?_, ?_, ?_, ?_⟩, hgap, ?_⟩
      · unfold Near; simp only; omega
      · rw [hw]; simp
      · simp only [List.length_append, List.length_cons, List.length_nil]; omega
      · rw [hL]; simp
      · rw [List.length_append]
        exact (Weak.sel [2] hB (by decide) (by (repeat' (first | exact trivial | exact RenB.plRow rfl | exact RenB.dead _ | refine And.intro ?_ ?_ | (refine RenB.plBox ?_; (repeat' (first | exact Pl.v _ | exact Pl.junk | exact Pl.rd rfl _ | exact pl_nil | refine pl_cons ?_ ?_ | refine Pl.agg ?_ | refine Pl.tup ?_ | refine Pl.rp ?_ | refine Pl.fn ?_)); done) | refine RenB.of ?_ | exact RenV.ptr rfl | exact RenV.sl rfl | (refine RenV.pl ?_; (repeat' (first | exact Pl.v _ | exact Pl.junk | exact Pl.rd rfl _ | exact pl_nil | refine pl_cons ?_ ?_ | refine Pl.agg ?_ | refine Pl.tup ?_ | refine Pl.rp ?_ | refine Pl.fn ?_)); done) | refine RenV.aggL ?_ | refine RenV.fnL ?_ | exact Nat.lt_of_sub_pos (by decide) | (simp; done))); done) (by (repeat' (first | exact trivial | exact RenV.ptr rfl | exact RenV.sl rfl | exact RenV.low (.v _) | (refine RenV.pl ?_; (repeat' (first | exact Pl.v _ | exact Pl.junk | exact Pl.rd rfl _ | exact pl_nil | refine pl_cons ?_ ?_ | refine Pl.agg ?_ | refine Pl.tup ?_ | refine Pl.rp ?_ | refine Pl.fn ?_)); done) | refine RenV.fnL ?_ | refine RenV.aggL ?_ | refine And.intro ?_ ?_)); done))
    · obtain rfl : z = xAt xs ys i (k + 1) := by omega
      rw [lineTo_same, List.append_nil] at hw
      refine ⟨k + 1, by omega, by omega, ?_⟩
      rw [show pathTo xs ys i (k + 1) = L from by rw [pathTo, hw, hL, hL0]]
      exact (Weak.slots (by repeat' first | exact trivial | exact ⟨rfl, trivial⟩ | refine ⟨rfl, ?_⟩))
  all_goals split at hs
  all_goals try split at hs
  all_goals try (exfalso; omega)
  all_goals
    rw [← hs, hL0, List.length_append]
    exact (Weak.sel [2] hB (by decide) (by (repeat' (first | exact trivial | exact RenB.plRow rfl | exact RenB.dead _ | refine And.intro ?_ ?_ | (refine RenB.plBox ?_; (repeat' (first | exact Pl.v _ | exact Pl.junk | exact Pl.rd rfl _ | exact pl_nil | refine pl_cons ?_ ?_ | refine Pl.agg ?_ | refine Pl.tup ?_ | refine Pl.rp ?_ | refine Pl.fn ?_)); done) | refine RenB.of ?_ | exact RenV.ptr rfl | exact RenV.sl rfl | (refine RenV.pl ?_; (repeat' (first | exact Pl.v _ | exact Pl.junk | exact Pl.rd rfl _ | exact pl_nil | refine pl_cons ?_ ?_ | refine Pl.agg ?_ | refine Pl.tup ?_ | refine Pl.rp ?_ | refine Pl.fn ?_)); done) | refine RenV.aggL ?_ | refine RenV.fnL ?_ | exact Nat.lt_of_sub_pos (by decide) | (simp; done))); done) (by (repeat' (first | exact trivial | exact RenV.ptr rfl | exact RenV.sl rfl | exact RenV.low (.v _) | (refine RenV.pl ?_; (repeat' (first | exact Pl.v _ | exact Pl.junk | exact Pl.rd rfl _ | exact pl_nil | refine pl_cons ?_ ?_ | refine Pl.agg ?_ | refine Pl.tup ?_ | refine Pl.rp ?_ | refine Pl.fn ?_)); done) | refine RenV.fnL ?_ | refine RenV.aggL ?_ | refine And.intro ?_ ?_)); done))
end Go.Proofs.Ytlkamicaoljefaa

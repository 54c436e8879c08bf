/- Walks: points read. -/
import Derived.Test.YtlgagjboijkpgaaDoorRW5
import Derived.Test.YtlgagjboijkpgaaDoorW5A
set_option linter.unusedSimpArgs false
set_option linter.unusedVariables false
set_option maxHeartbeats 1000000
namespace Go.Proofs.YtlgagjboijkpgaaDoor
open Go.Lib Go.Eng

/-- The points of the first i parts; none where one is none. -/
def rpTo (ps : List ByteArray) : Nat → Option (List (Int × Int))
  | 0 => some []
  | i + 1 => match rpTo ps i with
    | none => none
    | some l => (rdp (ps.getD i ByteArray.empty)).map fun n => l ++ [n]
theorem rpTo_len {ps : List ByteArray} : ∀ {i : Nat} {l : List (Int × Int)}, rpTo ps i = some l → l.length = i
  | 0, l, h => by simp [rpTo] at h; subst h; rfl
  | i + 1, l, h => by
    unfold rpTo at h
    split at h
    · cases h
    · rename_i l' hl
      obtain ⟨n, _, rfl⟩ := Option.map_eq_some_iff.1 h
      simp [rpTo_len hl]
theorem rpTo_none {ps : List ByteArray} {i : Nat} (h : rpTo ps i = none) : ∀ d, rpTo ps (i + d) = none
  | 0 => h
  | d + 1 => by
    have := rpTo_none h d
    show rpTo ps ((i + d) + 1) = none
    unfold rpTo
    rw [this]
theorem rpTo_pre {ps : List ByteArray} {i : Nat} {l : List (Int × Int)} (h : rpTo ps i = some l) : ∀ d l', rpTo ps (i + d) = some l' → ∃ r, l' = l ++ r
  | 0, l', h' => ⟨[], by rw [show i + 0 = i from rfl, h] at h'; cases h'; simp⟩
  | d + 1, l', h' => by
    have h2 : rpTo ps ((i + d) + 1) = some l' := h'
    unfold rpTo at h2
    split at h2
    · cases h2
    · rename_i l2 hl
      obtain ⟨n, _, rfl⟩ := Option.map_eq_some_iff.1 h2
      obtain ⟨r, rfl⟩ := rpTo_pre h d l2 hl
      exact ⟨r ++ [n], by simp⟩
def allPt (l : List (Int × Int)) : Option (List (Int × Int)) := if l.all ptOk = true then some l else none
/-- The points of a text. -/
def rps (s : ByteArray) : Option (List (Int × Int)) := if s = noneS then some [] else if (ptsS 44 s).length ≤ 24 then (rpTo (ptsS 44 s) (ptsS 44 s).length).bind allPt else none
theorem rps_len {s : ByteArray} {l : List (Int × Int)} (h : rps s = some l) : l.length ≤ 24 := by
  unfold rps at h
  split at h
  · cases h; simp
  · split at h
    · rename_i h24
      cases e : rpTo (ptsS 44 s) (ptsS 44 s).length with
      | none => rw [e] at h; cases h
      | some l' =>
        rw [e] at h
        simp only [Option.bind_some, allPt] at h
        split at h
        · cases h; rw [rpTo_len e]; exact h24
        · cases h
    · cases h
theorem rpTo_step {P : List ByteArray} {i : Nat} {l : List (Int × Int)} {n : Int × Int} (h : rpTo P i = some l) (hn : rdp (P.getD i ByteArray.empty) = some n) : rpTo P (i + 1) = some (l ++ [n]) := by
  simp only [rpTo, h, hn, Option.map_some]
theorem rpTo_stop {P : List ByteArray} {i : Nat} {l : List (Int × Int)} (h : rpTo P i = some l) (hn : rdp (P.getD i ByteArray.empty) = none) (hi : i < P.length) : rpTo P P.length = none := by
  have h1 : rpTo P (i + 1) = none := by simp only [rpTo, h, hn, Option.map_none]
  have := rpTo_none h1 (P.length - (i + 1))
  rwa [show i + 1 + (P.length - (i + 1)) = P.length by omega] at this
theorem rpTo_bad {P : List ByteArray} {i : Nat} {l : List (Int × Int)} {n : Int × Int} (h : rpTo P i = some l) (hn : rdp (P.getD i ByteArray.empty) = some n) (hp : ptOk n = false) (hi : i < P.length) : (rpTo P P.length).bind allPt = none := by
  have h1 := rpTo_step h hn
  cases e : rpTo P P.length with
  | none => rfl
  | some l' =>
    obtain ⟨r, rfl⟩ := rpTo_pre h1 (P.length - (i + 1)) l' (by rw [show i + 1 + (P.length - (i + 1)) = P.length by omega]; exact e)
    simp [allPt, hp]
def RpPost (o : Option (List (Int × Int))) (H : List ABox) (r : AVal) (H' : List ABox) : Prop := (∃ xs, o = some xs ∧ r = .tup [.sl 2 H.length 0 xs.length, .v (.bool (true))] ∧ H' = H ++ [.row false .pt xs]) ∨ (o = none ∧ r = .tup [.v (.slice none 0 0), .v (.bool (false))] ∧ H' = H)
theorem rdp_two {q : ByteArray} (h : (ptsS 46 q).length = 2) {x y : Int} (hx : rd ((ptsS 46 q).getD 0 ByteArray.empty) = some x) (hy : rd ((ptsS 46 q).getD 1 ByteArray.empty) = some y) : rdp q = some (x, y) := by
  unfold rdp; rw [if_pos h, hx, hy]
theorem rdp_n0 {q : ByteArray} (h : (ptsS 46 q).length ≠ 2) : rdp q = none := if_neg h
theorem rdp_n1 {q : ByteArray} (hx : rd ((ptsS 46 q).getD 0 ByteArray.empty) = none) : rdp q = none := by
  unfold rdp
  split
  · rw [hx]
  · rfl
theorem rdp_n2 {q : ByteArray} (hy : rd ((ptsS 46 q).getD 1 ByteArray.empty) = none) : rdp q = none := by
  unfold rdp
  split
  · rw [hy]; cases rd ((ptsS 46 q).getD 0 ByteArray.empty) <;> rfl
  · rfl
theorem cut96p_ac (s : ByteArray) (hs : s.size ≤ 1048576) (H : List ABox) : AC Tryd.prog 96 [.v (.string (s)), .v (.int .u8 46)] H (fun r H' => r = .sl 1 H.length 0 (ptsS 46 s).length ∧ H' = H ++ [.row false .str (ptsS 46 s)]) := cut96_ac s hs 46 H
theorem pread70_ac (s : ByteArray) (hs : s.size ≤ 1048576) (H : List ABox) : AC Tryd.prog 70 [.v (.string (s))] H (RpPost (rps s) H) := by
  have hpl := ptsS_len 44 s
  have hps := ptsS_size 44 s
  by_cases hn : s = noneS
  · have hn' : (s = ⟨#[110, 111, 110, 101]⟩) = True := eq_true hn
    have hr : rps s = some [] := if_pos hn
    refine AC.enter envOk Tryd.func70 rfl (by decide) Tryd.ntmps70 Tryd.results70 (by simp) fun hB => ?_
    repeat' (first
      | (with_reducible refine AW.sreg envOk fun K hK => ?_)
      | (with_reducible refine AW.region envOk fun K hK => ?_)
      | (with_reducible refine vcL_nil ?_)
      | (with_reducible refine vcL_cons fun K' hK' => ?_; simp only [isC, Bool.false_or, Bool.or_true, vAppend, elems, ↓reduceDIte, List.take_length, Nat.le_refl, List.drop_zero, vGuard, undef, Bool.not_eq_eq_eq_not, dstOk, vcOp, vcF, isPure, putS, vcCall, St.ev, St.put, lk, AVal.ofVal, initS, Nat.reduceLT, true_and, and_true, vBin, vUn, vPick, vConv, vPart, vLoad, vStore, vIdxA, vIdx, vFldA, vExt, vLen, vMin, vNil, vAlloc, vBox, vBuild, vBuildSl, vMake, vSlice, bnd, partsA, fillA, decAll, AVal.flat, AVal.cell, cellsOk, setRange, ETy.enc, ETy.dec, ETy.sz, ETy.d, cond, Nat.reduceBEq, Nat.reduceAdd, Int.toNat_natCast, List.length_set, List.length_append, List.length_replicate, List.length_take, Nat.reduceSub, Nat.reduceEqDiff, get_loc, setBox_loc, next_eq, List.length_cons, List.length_nil, List.map_cons, List.map_nil, List.append_nil, List.nil_append, List.cons_append, List.set_cons_zero, List.set_cons_succ, getD_zero, getD_succ, List.getElem?_cons_succ, List.getElem?_cons_zero, List.take_succ_cons, List.take_zero, List.drop_succ_cons, List.drop_zero, List.all_cons, List.all_nil, Bool.and_true, Bool.true_and, Option.bind_some, Option.map_some, Option.map_none, decide_eq_true_eq, decide_eq_false_iff_not, ne_eq, Bool.not_eq_true, Bool.not_eq_false, Decidable.not_not, not_true_eq_false, not_false_eq_true, forall_const, false_implies, Bool.true_eq_false, Bool.false_eq_true, reduceCtorEq, decide_true, decide_false, Bool.not_true, Bool.not_false, if_true, if_false, Nat.zero_add, Nat.lt_irrefl, Value.oneCell', gt_iff_lt, Nat.reduceLeDiff, Nat.lt_add_one, List.length_append, vMakeMap, vLookup, vMapUpd, vMapEnt, vEntSt, vRange, vEntry, KK.of, KK.av, lkRes, entry_last, vvar_1, vzero_1, vvar_2, vzero_2, vknd_2, vsn_2, vvar_3, vzero_3, vknd_3, vsn_3, vvar_4, vzero_4, vknd_4, vsn_4, vvar_9, vzero_9, vknd_9, vsn_9, vsl_36, vkn_36, vvar_36, vzero_36, vvar_80, vzero_80, vbld_80, vpts_80, vsl_84, vkn_84, vvar_84, vzero_84, hn']; try simp (disch := omega) only [wrap64])
      | (with_reducible refine hK' _ ?_; clear hK' K')
      | (with_reducible refine hK _ ?_; clear hK K)
      | (with_reducible refine And.intro (And.intro rfl rfl) ?_)
      | (with_reducible refine And.intro (by omega) ?_)
      | (with_reducible refine And.intro (fun hg => ?_) (fun hg => ?_) <;> first | simp only [eq_false hg, decide_true, decide_false, and_true, true_and, and_false, false_and, not_true_eq_false, not_false_eq_true] | simp only [eq_true hg, decide_true, decide_false, and_true, true_and, and_false, false_and, not_true_eq_false, not_false_eq_true] | simp only [hg, decide_true, decide_false, and_true, true_and, and_false, false_and, not_true_eq_false, not_false_eq_true])
      | (with_reducible refine And.intro rfl (And.intro rfl rfl))
      | (with_reducible refine thenQ_n ?_)
      | (with_reducible refine thenQ_exit ?_)
      | (with_reducible refine thenQ_ret ?_)
      | (with_reducible refine midQ_ret ?_)
      | (with_reducible refine midQ_exit ?_)
      | (with_reducible refine blockQ_same ?_)
      | (with_reducible refine blockQ_ret ?_)
      | (with_reducible refine blockQ_n ?_)
      | (with_reducible refine AW.exit ?_)
      | (with_reducible refine AW.block ?_)
      | (with_reducible refine AW.cond_t rfl ?_)
      | (with_reducible refine AW.cond_f rfl ?_)
      | (with_reducible refine AW.cond_dec rfl (fun hc => ?_) (fun hc => ?_))
      | (with_reducible refine AW.cond rfl (fun hc => ?_) (fun hc => ?_) <;> try simp only [Bool.not_eq_eq_eq_not, Bool.not_true, Bool.not_false, decide_eq_true_eq, decide_eq_false_iff_not] at hc)
      | (with_reducible refine AW.seq ?_)
      | (with_reducible refine AW.skip ?_)
      | (with_reducible refine AW.ret ?_)
      | (with_reducible refine And.intro ?_ ?_)
      | (with_reducible intro hg; first | simp only [eq_false hg, decide_true, decide_false, and_true, true_and, and_false, false_and, not_true_eq_false, not_false_eq_true] | simp only [eq_true hg, decide_true, decide_false, and_true, true_and, and_false, false_and, not_true_eq_false, not_false_eq_true])
      | (with_reducible refine retQ_drop ?_; simp only [vRes, packRes, vLoad, vPart, lk, cond, Nat.reduceBEq, get_loc, getD_zero, getD_succ, true_and, List.length_cons, List.length_nil, Nat.reduceAdd, Nat.reduceLT, Nat.reduceLeDiff, List.take_succ_cons, List.take_zero, List.drop_succ_cons, List.drop_zero, vvar_1, vzero_1, vvar_2, vzero_2, vknd_2, vsn_2, vvar_3, vzero_3, vknd_3, vsn_3, vvar_4, vzero_4, vknd_4, vsn_4, vvar_9, vzero_9, vknd_9, vsn_9, vsl_36, vkn_36, vvar_36, vzero_36, vvar_80, vzero_80, vbld_80, vpts_80, vsl_84, vkn_84, vvar_84, vzero_84])
      )
    exact ⟨_, _, FinOk.keep [0] (L := [.row false .pt []]) hB (by decide) ⟨RenB.plRow rfl, by simp, trivial⟩ (RenV.tupL (cs' := [.sl 2 (H.length + 0) 0 0, .v (.bool (true))]) ⟨by simpa using RenV.sl (n := H.length) (idx := [0]) (sz := 2) (i := 0) (j := 0) (off := 0) (m := 0) rfl, RenV.low (.v _), trivial⟩), .inl ⟨[], hr, rfl, rfl⟩⟩
  · have hn' : (s = ⟨#[110, 111, 110, 101]⟩) = False := eq_false hn
    have hr : rps s = if (ptsS 44 s).length ≤ 24 then (rpTo (ptsS 44 s) (ptsS 44 s).length).bind allPt else none := if_neg hn
    have hc := cut96c_ac s hs
    generalize ptsS 44 s = P at hpl hps hr hc
    by_cases h24 : P.length ≤ 24
    · rw [if_pos h24] at hr
      refine AC.enter envOk Tryd.func70 rfl (by decide) Tryd.ntmps70 Tryd.results70 (by simp) fun hB => ?_
      repeat' (first
        | (with_reducible refine AW.sreg envOk fun K hK => ?_)
        | (with_reducible refine AW.region envOk fun K hK => ?_)
        | (with_reducible refine vcL_nil ?_)
        | (with_reducible refine vcL_cons fun K' hK' => ?_; simp only [isC, Bool.false_or, Bool.or_true, vAppend, elems, ↓reduceDIte, List.take_length, Nat.le_refl, List.drop_zero, vGuard, undef, Bool.not_eq_eq_eq_not, dstOk, vcOp, vcF, isPure, putS, vcCall, St.ev, St.put, lk, AVal.ofVal, initS, Nat.reduceLT, true_and, and_true, vBin, vUn, vPick, vConv, vPart, vLoad, vStore, vIdxA, vIdx, vFldA, vExt, vLen, vMin, vNil, vAlloc, vBox, vBuild, vBuildSl, vMake, vSlice, bnd, partsA, fillA, decAll, AVal.flat, AVal.cell, cellsOk, setRange, ETy.enc, ETy.dec, ETy.sz, ETy.d, cond, Nat.reduceBEq, Nat.reduceAdd, Int.toNat_natCast, List.length_set, List.length_append, List.length_replicate, List.length_take, Nat.reduceSub, Nat.reduceEqDiff, get_loc, setBox_loc, next_eq, List.length_cons, List.length_nil, List.map_cons, List.map_nil, List.append_nil, List.nil_append, List.cons_append, List.set_cons_zero, List.set_cons_succ, getD_zero, getD_succ, List.getElem?_cons_succ, List.getElem?_cons_zero, List.take_succ_cons, List.take_zero, List.drop_succ_cons, List.drop_zero, List.all_cons, List.all_nil, Bool.and_true, Bool.true_and, Option.bind_some, Option.map_some, Option.map_none, decide_eq_true_eq, decide_eq_false_iff_not, ne_eq, Bool.not_eq_true, Bool.not_eq_false, Decidable.not_not, not_true_eq_false, not_false_eq_true, forall_const, false_implies, Bool.true_eq_false, Bool.false_eq_true, reduceCtorEq, decide_true, decide_false, Bool.not_true, Bool.not_false, if_true, if_false, Nat.zero_add, Nat.lt_irrefl, Value.oneCell', gt_iff_lt, Nat.reduceLeDiff, Nat.lt_add_one, List.length_append, vMakeMap, vLookup, vMapUpd, vMapEnt, vEntSt, vRange, vEntry, KK.of, KK.av, lkRes, entry_last, vvar_1, vzero_1, vvar_2, vzero_2, vknd_2, vsn_2, vvar_3, vzero_3, vknd_3, vsn_3, vvar_4, vzero_4, vknd_4, vsn_4, vvar_9, vzero_9, vknd_9, vsn_9, vsl_36, vkn_36, vvar_36, vzero_36, vvar_80, vzero_80, vbld_80, vpts_80, vsl_84, vkn_84, vvar_84, vzero_84, hn']; try simp (disch := omega) only [wrap64])
        | (with_reducible refine hK' _ ?_; clear hK' K')
        | (with_reducible refine hK _ ?_; clear hK K)
        | ((with_reducible show vCall _ (AVal.fn 96 _) _ _ _); refine vCall_newE (hc _) (by simp only [List.length_append, List.length_cons, List.length_nil, Nat.reduceAdd]; rfl) ?_)
        | (with_reducible refine And.intro (And.intro rfl rfl) ?_)
        | (with_reducible refine And.intro (by omega) ?_)
        | (with_reducible refine And.intro (fun hg => ?_) (fun hg => ?_) <;> first | simp only [eq_false hg, decide_true, decide_false, and_true, true_and, and_false, false_and, not_true_eq_false, not_false_eq_true] | simp only [eq_true hg, decide_true, decide_false, and_true, true_and, and_false, false_and, not_true_eq_false, not_false_eq_true] | simp only [hg, decide_true, decide_false, and_true, true_and, and_false, false_and, not_true_eq_false, not_false_eq_true])
        | (with_reducible refine And.intro rfl (And.intro rfl rfl))
        | (with_reducible refine thenQ_n ?_)
        | (with_reducible refine thenQ_exit ?_)
        | (with_reducible refine thenQ_ret ?_)
        | (with_reducible refine midQ_ret ?_)
        | (with_reducible refine midQ_exit ?_)
        | (with_reducible refine blockQ_same ?_)
        | (with_reducible refine blockQ_ret ?_)
        | (with_reducible refine blockQ_n ?_)
        | (with_reducible refine AW.exit ?_)
        | (with_reducible refine AW.block ?_)
        | (with_reducible refine AW.cond_t rfl ?_)
        | (with_reducible refine AW.cond_f rfl ?_)
        | (with_reducible refine AW.cond_dec rfl (fun hc => ?_) (fun hc => ?_))
        | (with_reducible refine AW.cond rfl (fun hc => ?_) (fun hc => ?_) <;> try simp only [Bool.not_eq_eq_eq_not, Bool.not_true, Bool.not_false, decide_eq_true_eq, decide_eq_false_iff_not] at hc)
        | (with_reducible refine AW.seq ?_)
        | (with_reducible refine AW.skip ?_)
        | (with_reducible refine AW.ret ?_)
        | (with_reducible refine And.intro ?_ ?_)
        | (with_reducible intro hg; first | simp only [eq_false hg, decide_true, decide_false, and_true, true_and, and_false, false_and, not_true_eq_false, not_false_eq_true] | simp only [eq_true hg, decide_true, decide_false, and_true, true_and, and_false, false_and, not_true_eq_false, not_false_eq_true])
        | (with_reducible refine retQ_drop ?_; simp only [vRes, packRes, vLoad, vPart, lk, cond, Nat.reduceBEq, get_loc, getD_zero, getD_succ, true_and, List.length_cons, List.length_nil, Nat.reduceAdd, Nat.reduceLT, Nat.reduceLeDiff, List.take_succ_cons, List.take_zero, List.drop_succ_cons, List.drop_zero, vvar_1, vzero_1, vvar_2, vzero_2, vknd_2, vsn_2, vvar_3, vzero_3, vknd_3, vsn_3, vvar_4, vzero_4, vknd_4, vsn_4, vvar_9, vzero_9, vknd_9, vsn_9, vsl_36, vkn_36, vvar_36, vzero_36, vvar_80, vzero_80, vbld_80, vpts_80, vsl_84, vkn_84, vvar_84, vzero_84])
        )
      · exfalso; omega
      refine AW.loop (fun z : Nat × List (Int × Int) => (⟨69, [(4, .sl 2 (H.length + 0) 0 (z.2.length)), (5, .sl 1 (H.length + 1) 0 (P.length)), (6, .v (.int .i64 ((z.1 : Int))))], H, [.row false .pt (z.2), .row false .str P]⟩ : St)) (fun z => z.1 ≤ P.length ∧ rpTo P z.1 = some z.2 ∧ z.2.all ptOk = true) (fun z => P.length - z.1) (0, []) ⟨Nat.zero_le _, rfl, rfl⟩ (Weak.slots (by repeat' first | exact trivial | exact ⟨rfl, trivial⟩ | refine ⟨rfl, ?_⟩)) ?_
      intro ⟨i, out⟩ ⟨hi, hI, hA⟩
      simp only at hi hI hA ⊢
      have hol := rpTo_len hI
      have hps' := hps i
      by_cases hlt : i < P.length
      · have hc2 := cut96p_ac (P.getD i ByteArray.empty) (by omega)
        have y0 := ptsS_size 46 (P.getD i ByteArray.empty) 0
        have y1 := ptsS_size 46 (P.getD i ByteArray.empty) 1
        have q2 := @rdp_two (P.getD i ByteArray.empty)
        have q0 := @rdp_n0 (P.getD i ByteArray.empty)
        have q1 := @rdp_n1 (P.getD i ByteArray.empty)
        have q3 := @rdp_n2 (P.getD i ByteArray.empty)
        have hpl2 := ptsS_len 46 (P.getD i ByteArray.empty)
        have hst := fun n => @rpTo_step P i out n hI
        have hsp := fun h => @rpTo_stop P i out hI h hlt
        have hbd := fun n h h2 => @rpTo_bad P i out n hI h h2 hlt
        generalize hq : P.getD i ByteArray.empty = q at hps' hc2 y0 y1 q0 q1 q2 q3 hpl2 hst hsp hbd
        generalize ptsS 46 q = B at hc2 y0 y1 q0 q1 q2 q3 hpl2
        by_cases hB2 : B.length = 2
        · have hl : (B.length : Int) = 2 := by omega
          cases hx : rd (B.getD 0 ByteArray.empty) with
          | none =>
            have hr2 : rps s = none := by rw [hr, hsp (q1 hx)]; rfl
            repeat' (first
              | (with_reducible refine AW.sreg envOk fun K hK => ?_)
              | (with_reducible refine AW.region envOk fun K hK => ?_)
              | (with_reducible refine vcL_nil ?_)
              | (with_reducible refine vcL_cons fun K' hK' => ?_; simp only [isC, Bool.false_or, Bool.or_true, vAppend, elems, ↓reduceDIte, List.take_length, Nat.le_refl, List.drop_zero, vGuard, undef, Bool.not_eq_eq_eq_not, dstOk, vcOp, vcF, isPure, putS, vcCall, St.ev, St.put, lk, AVal.ofVal, initS, Nat.reduceLT, true_and, and_true, vBin, vUn, vPick, vConv, vPart, vLoad, vStore, vIdxA, vIdx, vFldA, vExt, vLen, vMin, vNil, vAlloc, vBox, vBuild, vBuildSl, vMake, vSlice, bnd, partsA, fillA, decAll, AVal.flat, AVal.cell, cellsOk, setRange, ETy.enc, ETy.dec, ETy.sz, ETy.d, cond, Nat.reduceBEq, Nat.reduceAdd, Int.toNat_natCast, List.length_set, List.length_append, List.length_replicate, List.length_take, Nat.reduceSub, Nat.reduceEqDiff, get_loc, setBox_loc, next_eq, List.length_cons, List.length_nil, List.map_cons, List.map_nil, List.append_nil, List.nil_append, List.cons_append, List.set_cons_zero, List.set_cons_succ, getD_zero, getD_succ, List.getElem?_cons_succ, List.getElem?_cons_zero, List.take_succ_cons, List.take_zero, List.drop_succ_cons, List.drop_zero, List.all_cons, List.all_nil, Bool.and_true, Bool.true_and, Option.bind_some, Option.map_some, Option.map_none, decide_eq_true_eq, decide_eq_false_iff_not, ne_eq, Bool.not_eq_true, Bool.not_eq_false, Decidable.not_not, not_true_eq_false, not_false_eq_true, forall_const, false_implies, Bool.true_eq_false, Bool.false_eq_true, reduceCtorEq, decide_true, decide_false, Bool.not_true, Bool.not_false, if_true, if_false, Nat.zero_add, Nat.lt_irrefl, Value.oneCell', gt_iff_lt, Nat.reduceLeDiff, Nat.lt_add_one, List.length_append, vMakeMap, vLookup, vMapUpd, vMapEnt, vEntSt, vRange, vEntry, KK.of, KK.av, lkRes, entry_last, vvar_1, vzero_1, vvar_2, vzero_2, vknd_2, vsn_2, vvar_3, vzero_3, vknd_3, vsn_3, vvar_4, vzero_4, vknd_4, vsn_4, vvar_9, vzero_9, vknd_9, vsn_9, vsl_36, vkn_36, vvar_36, vzero_36, vvar_80, vzero_80, vbld_80, vpts_80, vsl_84, vkn_84, vvar_84, vzero_84, hl, hx, hq, Option.isSome_none, Int.toNat_zero, Int.reduceToNat]; try simp (disch := omega) only [wrap64])
              | (with_reducible refine hK' _ ?_; clear hK' K')
              | (with_reducible refine hK _ ?_; clear hK K)
              | ((with_reducible show vCall _ (AVal.fn 96 _) _ _ _); refine vCall_newE (hc2 _) (by simp only [List.length_append, List.length_cons, List.length_nil, Nat.reduceAdd]; rfl) ?_)
              | ((with_reducible show vCall _ (AVal.fn 54 _) _ _ _); refine vCall_pure (value54_ac _ (by omega) _) ?_)
              | ((with_reducible show vcC _ 54 _ _ _); refine vcC_pure (value54_ac _ (by omega) _) ?_)
              | (with_reducible refine And.intro (And.intro rfl rfl) ?_)
              | (with_reducible refine And.intro (by omega) ?_)
              | (with_reducible refine And.intro (fun hg => ?_) (fun hg => ?_) <;> first | simp only [eq_false hg, decide_true, decide_false, and_true, true_and, and_false, false_and, not_true_eq_false, not_false_eq_true] | simp only [eq_true hg, decide_true, decide_false, and_true, true_and, and_false, false_and, not_true_eq_false, not_false_eq_true] | simp only [hg, decide_true, decide_false, and_true, true_and, and_false, false_and, not_true_eq_false, not_false_eq_true])
              | (with_reducible refine And.intro rfl (And.intro rfl rfl))
              | (with_reducible refine thenQ_n ?_)
              | (with_reducible refine thenQ_exit ?_)
              | (with_reducible refine thenQ_ret ?_)
              | (with_reducible refine midQ_ret ?_)
              | (with_reducible refine midQ_exit ?_)
              | (with_reducible refine blockQ_same ?_)
              | (with_reducible refine blockQ_ret ?_)
              | (with_reducible refine blockQ_n ?_)
              | (with_reducible refine AW.exit ?_)
              | (with_reducible refine AW.block ?_)
              | (with_reducible refine AW.cond_t rfl ?_)
              | (with_reducible refine AW.cond_f rfl ?_)
              | (with_reducible refine AW.cond_dec rfl (fun hc => ?_) (fun hc => ?_))
              | (with_reducible refine AW.cond rfl (fun hc => ?_) (fun hc => ?_) <;> try simp only [Bool.not_eq_eq_eq_not, Bool.not_true, Bool.not_false, decide_eq_true_eq, decide_eq_false_iff_not] at hc)
              | (with_reducible refine AW.seq ?_)
              | (with_reducible refine AW.skip ?_)
              | (with_reducible refine AW.ret ?_)
              | (with_reducible refine And.intro ?_ ?_)
              | (with_reducible intro hg; first | simp only [eq_false hg, decide_true, decide_false, and_true, true_and, and_false, false_and, not_true_eq_false, not_false_eq_true] | simp only [eq_true hg, decide_true, decide_false, and_true, true_and, and_false, false_and, not_true_eq_false, not_false_eq_true])
              | (with_reducible refine retQ_drop ?_; simp only [vRes, packRes, vLoad, vPart, lk, cond, Nat.reduceBEq, get_loc, getD_zero, getD_succ, true_and, List.length_cons, List.length_nil, Nat.reduceAdd, Nat.reduceLT, Nat.reduceLeDiff, List.take_succ_cons, List.take_zero, List.drop_succ_cons, List.drop_zero, vvar_1, vzero_1, vvar_2, vzero_2, vknd_2, vsn_2, vvar_3, vzero_3, vknd_3, vsn_3, vvar_4, vzero_4, vknd_4, vsn_4, vvar_9, vzero_9, vknd_9, vsn_9, vsl_36, vkn_36, vvar_36, vzero_36, vvar_80, vzero_80, vbld_80, vpts_80, vsl_84, vkn_84, vvar_84, vzero_84])
              )
            all_goals first
              | (exfalso; omega)
              | exact ⟨_, _, FinOk.drop hB (Plain.tup (plain_cons (.v _) (plain_cons (.v _) plain_nil))).ids, .inr ⟨hr2, rfl, rfl⟩⟩
              | fail
          | some x =>
            cases hy : rd (B.getD 1 ByteArray.empty) with
            | none =>
              have hr2 : rps s = none := by rw [hr, hsp (q3 hy)]; rfl
              repeat' (first
                | (with_reducible refine AW.sreg envOk fun K hK => ?_)
                | (with_reducible refine AW.region envOk fun K hK => ?_)
                | (with_reducible refine vcL_nil ?_)
                | (with_reducible refine vcL_cons fun K' hK' => ?_; simp only [isC, Bool.false_or, Bool.or_true, vAppend, elems, ↓reduceDIte, List.take_length, Nat.le_refl, List.drop_zero, vGuard, undef, Bool.not_eq_eq_eq_not, dstOk, vcOp, vcF, isPure, putS, vcCall, St.ev, St.put, lk, AVal.ofVal, initS, Nat.reduceLT, true_and, and_true, vBin, vUn, vPick, vConv, vPart, vLoad, vStore, vIdxA, vIdx, vFldA, vExt, vLen, vMin, vNil, vAlloc, vBox, vBuild, vBuildSl, vMake, vSlice, bnd, partsA, fillA, decAll, AVal.flat, AVal.cell, cellsOk, setRange, ETy.enc, ETy.dec, ETy.sz, ETy.d, cond, Nat.reduceBEq, Nat.reduceAdd, Int.toNat_natCast, List.length_set, List.length_append, List.length_replicate, List.length_take, Nat.reduceSub, Nat.reduceEqDiff, get_loc, setBox_loc, next_eq, List.length_cons, List.length_nil, List.map_cons, List.map_nil, List.append_nil, List.nil_append, List.cons_append, List.set_cons_zero, List.set_cons_succ, getD_zero, getD_succ, List.getElem?_cons_succ, List.getElem?_cons_zero, List.take_succ_cons, List.take_zero, List.drop_succ_cons, List.drop_zero, List.all_cons, List.all_nil, Bool.and_true, Bool.true_and, Option.bind_some, Option.map_some, Option.map_none, decide_eq_true_eq, decide_eq_false_iff_not, ne_eq, Bool.not_eq_true, Bool.not_eq_false, Decidable.not_not, not_true_eq_false, not_false_eq_true, forall_const, false_implies, Bool.true_eq_false, Bool.false_eq_true, reduceCtorEq, decide_true, decide_false, Bool.not_true, Bool.not_false, if_true, if_false, Nat.zero_add, Nat.lt_irrefl, Value.oneCell', gt_iff_lt, Nat.reduceLeDiff, Nat.lt_add_one, List.length_append, vMakeMap, vLookup, vMapUpd, vMapEnt, vEntSt, vRange, vEntry, KK.of, KK.av, lkRes, entry_last, vvar_1, vzero_1, vvar_2, vzero_2, vknd_2, vsn_2, vvar_3, vzero_3, vknd_3, vsn_3, vvar_4, vzero_4, vknd_4, vsn_4, vvar_9, vzero_9, vknd_9, vsn_9, vsl_36, vkn_36, vvar_36, vzero_36, vvar_80, vzero_80, vbld_80, vpts_80, vsl_84, vkn_84, vvar_84, vzero_84, hl, hx, hy, hq, Option.isSome_none, Option.isSome_some, Option.getD_some, Int.toNat_zero, Int.reduceToNat]; try simp (disch := omega) only [wrap64])
                | (with_reducible refine hK' _ ?_; clear hK' K')
                | (with_reducible refine hK _ ?_; clear hK K)
                | ((with_reducible show vCall _ (AVal.fn 96 _) _ _ _); refine vCall_newE (hc2 _) (by simp only [List.length_append, List.length_cons, List.length_nil, Nat.reduceAdd]; rfl) ?_)
                | ((with_reducible show vCall _ (AVal.fn 54 _) _ _ _); refine vCall_pure (value54_ac _ (by omega) _) ?_)
                | ((with_reducible show vcC _ 54 _ _ _); refine vcC_pure (value54_ac _ (by omega) _) ?_)
                | (with_reducible refine And.intro (And.intro rfl rfl) ?_)
                | (with_reducible refine And.intro (by omega) ?_)
                | (with_reducible refine And.intro (fun hg => ?_) (fun hg => ?_) <;> first | simp only [eq_false hg, decide_true, decide_false, and_true, true_and, and_false, false_and, not_true_eq_false, not_false_eq_true] | simp only [eq_true hg, decide_true, decide_false, and_true, true_and, and_false, false_and, not_true_eq_false, not_false_eq_true] | simp only [hg, decide_true, decide_false, and_true, true_and, and_false, false_and, not_true_eq_false, not_false_eq_true])
                | (with_reducible refine And.intro rfl (And.intro rfl rfl))
                | (with_reducible refine thenQ_n ?_)
                | (with_reducible refine thenQ_exit ?_)
                | (with_reducible refine thenQ_ret ?_)
                | (with_reducible refine midQ_ret ?_)
                | (with_reducible refine midQ_exit ?_)
                | (with_reducible refine blockQ_same ?_)
                | (with_reducible refine blockQ_ret ?_)
                | (with_reducible refine blockQ_n ?_)
                | (with_reducible refine AW.exit ?_)
                | (with_reducible refine AW.block ?_)
                | (with_reducible refine AW.cond_t rfl ?_)
                | (with_reducible refine AW.cond_f rfl ?_)
                | (with_reducible refine AW.cond_dec rfl (fun hc => ?_) (fun hc => ?_))
                | (with_reducible refine AW.cond rfl (fun hc => ?_) (fun hc => ?_) <;> try simp only [Bool.not_eq_eq_eq_not, Bool.not_true, Bool.not_false, decide_eq_true_eq, decide_eq_false_iff_not] at hc)
                | (with_reducible refine AW.seq ?_)
                | (with_reducible refine AW.skip ?_)
                | (with_reducible refine AW.ret ?_)
                | (with_reducible refine And.intro ?_ ?_)
                | (with_reducible intro hg; first | simp only [eq_false hg, decide_true, decide_false, and_true, true_and, and_false, false_and, not_true_eq_false, not_false_eq_true] | simp only [eq_true hg, decide_true, decide_false, and_true, true_and, and_false, false_and, not_true_eq_false, not_false_eq_true])
                | (with_reducible refine retQ_drop ?_; simp only [vRes, packRes, vLoad, vPart, lk, cond, Nat.reduceBEq, get_loc, getD_zero, getD_succ, true_and, List.length_cons, List.length_nil, Nat.reduceAdd, Nat.reduceLT, Nat.reduceLeDiff, List.take_succ_cons, List.take_zero, List.drop_succ_cons, List.drop_zero, vvar_1, vzero_1, vvar_2, vzero_2, vknd_2, vsn_2, vvar_3, vzero_3, vknd_3, vsn_3, vvar_4, vzero_4, vknd_4, vsn_4, vvar_9, vzero_9, vknd_9, vsn_9, vsl_36, vkn_36, vvar_36, vzero_36, vvar_80, vzero_80, vbld_80, vpts_80, vsl_84, vkn_84, vvar_84, vzero_84])
                )
              all_goals first
                | (exfalso; omega)
                | exact ⟨_, _, FinOk.drop hB (Plain.tup (plain_cons (.v _) (plain_cons (.v _) plain_nil))).ids, .inr ⟨hr2, rfl, rfl⟩⟩
                | fail
            | some y =>
              cases hp : ptOk (x, y) with
              | false =>
                have hr2 : rps s = none := by rw [hr, hbd _ (q2 hB2 hx hy) hp]
                repeat' (first
                  | (with_reducible refine AW.sreg envOk fun K hK => ?_)
                  | (with_reducible refine AW.region envOk fun K hK => ?_)
                  | (with_reducible refine vcL_nil ?_)
                  | (with_reducible refine vcL_cons fun K' hK' => ?_; simp only [isC, Bool.false_or, Bool.or_true, vAppend, elems, ↓reduceDIte, List.take_length, Nat.le_refl, List.drop_zero, vGuard, undef, Bool.not_eq_eq_eq_not, dstOk, vcOp, vcF, isPure, putS, vcCall, St.ev, St.put, lk, AVal.ofVal, initS, Nat.reduceLT, true_and, and_true, vBin, vUn, vPick, vConv, vPart, vLoad, vStore, vIdxA, vIdx, vFldA, vExt, vLen, vMin, vNil, vAlloc, vBox, vBuild, vBuildSl, vMake, vSlice, bnd, partsA, fillA, decAll, AVal.flat, AVal.cell, cellsOk, setRange, ETy.enc, ETy.dec, ETy.sz, ETy.d, cond, Nat.reduceBEq, Nat.reduceAdd, Int.toNat_natCast, List.length_set, List.length_append, List.length_replicate, List.length_take, Nat.reduceSub, Nat.reduceEqDiff, get_loc, setBox_loc, next_eq, List.length_cons, List.length_nil, List.map_cons, List.map_nil, List.append_nil, List.nil_append, List.cons_append, List.set_cons_zero, List.set_cons_succ, getD_zero, getD_succ, List.getElem?_cons_succ, List.getElem?_cons_zero, List.take_succ_cons, List.take_zero, List.drop_succ_cons, List.drop_zero, List.all_cons, List.all_nil, Bool.and_true, Bool.true_and, Option.bind_some, Option.map_some, Option.map_none, decide_eq_true_eq, decide_eq_false_iff_not, ne_eq, Bool.not_eq_true, Bool.not_eq_false, Decidable.not_not, not_true_eq_false, not_false_eq_true, forall_const, false_implies, Bool.true_eq_false, Bool.false_eq_true, reduceCtorEq, decide_true, decide_false, Bool.not_true, Bool.not_false, if_true, if_false, Nat.zero_add, Nat.lt_irrefl, Value.oneCell', gt_iff_lt, Nat.reduceLeDiff, Nat.lt_add_one, List.length_append, vMakeMap, vLookup, vMapUpd, vMapEnt, vEntSt, vRange, vEntry, KK.of, KK.av, lkRes, entry_last, vvar_1, vzero_1, vvar_2, vzero_2, vknd_2, vsn_2, vvar_3, vzero_3, vknd_3, vsn_3, vvar_4, vzero_4, vknd_4, vsn_4, vvar_9, vzero_9, vknd_9, vsn_9, vsl_36, vkn_36, vvar_36, vzero_36, vvar_80, vzero_80, vbld_80, vpts_80, vsl_84, vkn_84, vvar_84, vzero_84, hl, hx, hy, hp, hq, Option.isSome_some, Option.getD_some, Int.toNat_zero, Int.reduceToNat]; try simp (disch := omega) only [wrap64])
                  | (with_reducible refine hK' _ ?_; clear hK' K')
                  | (with_reducible refine hK _ ?_; clear hK K)
                  | ((with_reducible show vCall _ (AVal.fn 96 _) _ _ _); refine vCall_newE (hc2 _) (by simp only [List.length_append, List.length_cons, List.length_nil, Nat.reduceAdd]; rfl) ?_)
                  | ((with_reducible show vCall _ (AVal.fn 54 _) _ _ _); refine vCall_pure (value54_ac _ (by omega) _) ?_)
                  | ((with_reducible show vcC _ 54 _ _ _); refine vcC_pure (value54_ac _ (by omega) _) ?_)
                  | ((with_reducible show vCall _ (AVal.fn 93 _) _ _ _); refine vCall_pure (l01Point_ac x y _) ?_)
                  | ((with_reducible show vcC _ 93 _ _ _); refine vcC_pure (l01Point_ac x y _) ?_)
                  | (with_reducible refine And.intro (And.intro rfl rfl) ?_)
                  | (with_reducible refine And.intro (by omega) ?_)
                  | (with_reducible refine And.intro (fun hg => ?_) (fun hg => ?_) <;> first | simp only [eq_false hg, decide_true, decide_false, and_true, true_and, and_false, false_and, not_true_eq_false, not_false_eq_true] | simp only [eq_true hg, decide_true, decide_false, and_true, true_and, and_false, false_and, not_true_eq_false, not_false_eq_true] | simp only [hg, decide_true, decide_false, and_true, true_and, and_false, false_and, not_true_eq_false, not_false_eq_true])
                  | (with_reducible refine And.intro rfl (And.intro rfl rfl))
                  | (with_reducible refine thenQ_n ?_)
                  | (with_reducible refine thenQ_exit ?_)
                  | (with_reducible refine thenQ_ret ?_)
                  | (with_reducible refine midQ_ret ?_)
                  | (with_reducible refine midQ_exit ?_)
                  | (with_reducible refine blockQ_same ?_)
                  | (with_reducible refine blockQ_ret ?_)
                  | (with_reducible refine blockQ_n ?_)
                  | (with_reducible refine AW.exit ?_)
                  | (with_reducible refine AW.block ?_)
                  | (with_reducible refine AW.cond_t rfl ?_)
                  | (with_reducible refine AW.cond_f rfl ?_)
                  | (with_reducible refine AW.cond_dec rfl (fun hc => ?_) (fun hc => ?_))
                  | (with_reducible refine AW.cond rfl (fun hc => ?_) (fun hc => ?_) <;> try simp only [Bool.not_eq_eq_eq_not, Bool.not_true, Bool.not_false, decide_eq_true_eq, decide_eq_false_iff_not] at hc)
                  | (with_reducible refine AW.seq ?_)
                  | (with_reducible refine AW.skip ?_)
                  | (with_reducible refine AW.ret ?_)
                  | (with_reducible refine And.intro ?_ ?_)
                  | (with_reducible intro hg; first | simp only [eq_false hg, decide_true, decide_false, and_true, true_and, and_false, false_and, not_true_eq_false, not_false_eq_true] | simp only [eq_true hg, decide_true, decide_false, and_true, true_and, and_false, false_and, not_true_eq_false, not_false_eq_true])
                  | (with_reducible refine retQ_drop ?_; simp only [vRes, packRes, vLoad, vPart, lk, cond, Nat.reduceBEq, get_loc, getD_zero, getD_succ, true_and, List.length_cons, List.length_nil, Nat.reduceAdd, Nat.reduceLT, Nat.reduceLeDiff, List.take_succ_cons, List.take_zero, List.drop_succ_cons, List.drop_zero, vvar_1, vzero_1, vvar_2, vzero_2, vknd_2, vsn_2, vvar_3, vzero_3, vknd_3, vsn_3, vvar_4, vzero_4, vknd_4, vsn_4, vvar_9, vzero_9, vknd_9, vsn_9, vsl_36, vkn_36, vvar_36, vzero_36, vvar_80, vzero_80, vbld_80, vpts_80, vsl_84, vkn_84, vvar_84, vzero_84])
                  )
                all_goals first
                  | (exfalso; omega)
                  | exact ⟨_, _, FinOk.drop hB (Plain.tup (plain_cons (.v _) (plain_cons (.v _) plain_nil))).ids, .inr ⟨hr2, rfl, rfl⟩⟩
                  | fail
              | true =>
                repeat' (first
                  | (with_reducible refine AW.sreg envOk fun K hK => ?_)
                  | (with_reducible refine AW.region envOk fun K hK => ?_)
                  | (with_reducible refine vcL_nil ?_)
                  | (with_reducible refine vcL_cons fun K' hK' => ?_; simp only [isC, Bool.false_or, Bool.or_true, vAppend, elems, ↓reduceDIte, List.take_length, Nat.le_refl, List.drop_zero, vGuard, undef, Bool.not_eq_eq_eq_not, dstOk, vcOp, vcF, isPure, putS, vcCall, St.ev, St.put, lk, AVal.ofVal, initS, Nat.reduceLT, true_and, and_true, vBin, vUn, vPick, vConv, vPart, vLoad, vStore, vIdxA, vIdx, vFldA, vExt, vLen, vMin, vNil, vAlloc, vBox, vBuild, vBuildSl, vMake, vSlice, bnd, partsA, fillA, decAll, AVal.flat, AVal.cell, cellsOk, setRange, ETy.enc, ETy.dec, ETy.sz, ETy.d, cond, Nat.reduceBEq, Nat.reduceAdd, Int.toNat_natCast, List.length_set, List.length_append, List.length_replicate, List.length_take, Nat.reduceSub, Nat.reduceEqDiff, get_loc, setBox_loc, next_eq, List.length_cons, List.length_nil, List.map_cons, List.map_nil, List.append_nil, List.nil_append, List.cons_append, List.set_cons_zero, List.set_cons_succ, getD_zero, getD_succ, List.getElem?_cons_succ, List.getElem?_cons_zero, List.take_succ_cons, List.take_zero, List.drop_succ_cons, List.drop_zero, List.all_cons, List.all_nil, Bool.and_true, Bool.true_and, Option.bind_some, Option.map_some, Option.map_none, decide_eq_true_eq, decide_eq_false_iff_not, ne_eq, Bool.not_eq_true, Bool.not_eq_false, Decidable.not_not, not_true_eq_false, not_false_eq_true, forall_const, false_implies, Bool.true_eq_false, Bool.false_eq_true, reduceCtorEq, decide_true, decide_false, Bool.not_true, Bool.not_false, if_true, if_false, Nat.zero_add, Nat.lt_irrefl, Value.oneCell', gt_iff_lt, Nat.reduceLeDiff, Nat.lt_add_one, List.length_append, vMakeMap, vLookup, vMapUpd, vMapEnt, vEntSt, vRange, vEntry, KK.of, KK.av, lkRes, entry_last, vvar_1, vzero_1, vvar_2, vzero_2, vknd_2, vsn_2, vvar_3, vzero_3, vknd_3, vsn_3, vvar_4, vzero_4, vknd_4, vsn_4, vvar_9, vzero_9, vknd_9, vsn_9, vsl_36, vkn_36, vvar_36, vzero_36, vvar_80, vzero_80, vbld_80, vpts_80, vsl_84, vkn_84, vvar_84, vzero_84, hl, hx, hy, hp, hq, Option.isSome_some, Option.getD_some, Int.toNat_zero, Int.reduceToNat]; try simp (disch := omega) only [wrap64])
                  | (with_reducible refine hK' _ ?_; clear hK' K')
                  | (with_reducible refine hK _ ?_; clear hK K)
                  | ((with_reducible show vCall _ (AVal.fn 96 _) _ _ _); refine vCall_newE (hc2 _) (by simp only [List.length_append, List.length_cons, List.length_nil, Nat.reduceAdd]; rfl) ?_)
                  | ((with_reducible show vCall _ (AVal.fn 54 _) _ _ _); refine vCall_pure (value54_ac _ (by omega) _) ?_)
                  | ((with_reducible show vcC _ 54 _ _ _); refine vcC_pure (value54_ac _ (by omega) _) ?_)
                  | ((with_reducible show vCall _ (AVal.fn 93 _) _ _ _); refine vCall_pure (l01Point_ac x y _) ?_)
                  | ((with_reducible show vcC _ 93 _ _ _); refine vcC_pure (l01Point_ac x y _) ?_)
                  | (with_reducible refine And.intro (And.intro rfl rfl) ?_)
                  | (with_reducible refine And.intro (by omega) ?_)
                  | (with_reducible refine And.intro (fun hg => ?_) (fun hg => ?_) <;> first | simp only [eq_false hg, decide_true, decide_false, and_true, true_and, and_false, false_and, not_true_eq_false, not_false_eq_true] | simp only [eq_true hg, decide_true, decide_false, and_true, true_and, and_false, false_and, not_true_eq_false, not_false_eq_true] | simp only [hg, decide_true, decide_false, and_true, true_and, and_false, false_and, not_true_eq_false, not_false_eq_true])
                  | (with_reducible refine And.intro rfl (And.intro rfl rfl))
                  | (with_reducible refine thenQ_n ?_)
                  | (with_reducible refine thenQ_exit ?_)
                  | (with_reducible refine thenQ_ret ?_)
                  | (with_reducible refine midQ_ret ?_)
                  | (with_reducible refine midQ_exit ?_)
                  | (with_reducible refine blockQ_same ?_)
                  | (with_reducible refine blockQ_ret ?_)
                  | (with_reducible refine blockQ_n ?_)
                  | (with_reducible refine AW.exit ?_)
                  | (with_reducible refine AW.block ?_)
                  | (with_reducible refine AW.cond_t rfl ?_)
                  | (with_reducible refine AW.cond_f rfl ?_)
                  | (with_reducible refine AW.cond_dec rfl (fun hc => ?_) (fun hc => ?_))
                  | (with_reducible refine AW.cond rfl (fun hc => ?_) (fun hc => ?_) <;> try simp only [Bool.not_eq_eq_eq_not, Bool.not_true, Bool.not_false, decide_eq_true_eq, decide_eq_false_iff_not] at hc)
                  | (with_reducible refine AW.seq ?_)
                  | (with_reducible refine AW.skip ?_)
                  | (with_reducible refine AW.ret ?_)
                  | (with_reducible refine And.intro ?_ ?_)
                  | (with_reducible intro hg; first | simp only [eq_false hg, decide_true, decide_false, and_true, true_and, and_false, false_and, not_true_eq_false, not_false_eq_true] | simp only [eq_true hg, decide_true, decide_false, and_true, true_and, and_false, false_and, not_true_eq_false, not_false_eq_true])
                  | (with_reducible refine retQ_drop ?_; simp only [vRes, packRes, vLoad, vPart, lk, cond, Nat.reduceBEq, get_loc, getD_zero, getD_succ, true_and, List.length_cons, List.length_nil, Nat.reduceAdd, Nat.reduceLT, Nat.reduceLeDiff, List.take_succ_cons, List.take_zero, List.drop_succ_cons, List.drop_zero, vvar_1, vzero_1, vvar_2, vzero_2, vknd_2, vsn_2, vvar_3, vzero_3, vknd_3, vsn_3, vvar_4, vzero_4, vknd_4, vsn_4, vvar_9, vzero_9, vknd_9, vsn_9, vsl_36, vkn_36, vvar_36, vzero_36, vvar_80, vzero_80, vbld_80, vpts_80, vsl_84, vkn_84, vvar_84, vzero_84])
                  )
                all_goals first
                  | (exfalso; omega)
                  | (refine ⟨(i + 1, out ++ [(x, y)]), ⟨by simp only; omega, hst _ (q2 hB2 hx hy), by simp [hA, hp]⟩, by simp only; omega, ?_⟩
                     simp only
                     rw [List.length_append]
                     exact (Weak.sel [5, 1] hB (by decide) (by (repeat' (first | exact trivial | exact RenB.plRow rfl | exact RenB.dead _ | exact RenB.map _ _ | exact RenB.iter rfl | refine And.intro ?_ ?_ | (refine RenB.plBox ?_; (repeat' (first | exact Pl.v _ | exact Pl.junk | exact Pl.rd rfl _ | exact pl_nil | refine pl_cons ?_ ?_ | refine Pl.agg ?_ | refine Pl.tup ?_ | refine Pl.rp ?_ | refine Pl.fn ?_)); (first | done | fail)) | refine RenB.of ?_ | exact RenV.ptr rfl | exact RenV.sl rfl | exact RenV.mp rfl | exact RenV.it rfl | (refine RenV.pl ?_; (repeat' (first | exact Pl.v _ | exact Pl.junk | exact Pl.rd rfl _ | exact pl_nil | refine pl_cons ?_ ?_ | refine Pl.agg ?_ | refine Pl.tup ?_ | refine Pl.rp ?_ | refine Pl.fn ?_)); (first | done | fail)) | refine RenV.aggL ?_ | refine RenV.fnL ?_ | exact Nat.lt_of_sub_pos (by decide) | (simp; (first | done | fail)))); (first | done | fail)) (by (repeat' (first | exact trivial | exact RenV.ptr rfl | exact RenV.sl rfl | exact RenV.mp rfl | exact RenV.it rfl | exact RenV.low (.v _) | exact RenV.low (IdsLt.ptr (by assumption)) | (refine RenV.pl ?_; (repeat' (first | exact Pl.v _ | exact Pl.junk | exact Pl.rd rfl _ | exact pl_nil | refine pl_cons ?_ ?_ | refine Pl.agg ?_ | refine Pl.tup ?_ | refine Pl.rp ?_ | refine Pl.fn ?_)); (first | done | fail)) | refine RenV.fnL ?_ | refine RenV.aggL ?_ | refine And.intro ?_ ?_)); (first | done | fail))))
                  | fail
        · have hl : ¬ (B.length : Int) = 2 := by omega
          have hr2 : rps s = none := by rw [hr, hsp (q0 hB2)]; rfl
          repeat' (first
            | (with_reducible refine AW.sreg envOk fun K hK => ?_)
            | (with_reducible refine AW.region envOk fun K hK => ?_)
            | (with_reducible refine vcL_nil ?_)
            | (with_reducible refine vcL_cons fun K' hK' => ?_; simp only [isC, Bool.false_or, Bool.or_true, vAppend, elems, ↓reduceDIte, List.take_length, Nat.le_refl, List.drop_zero, vGuard, undef, Bool.not_eq_eq_eq_not, dstOk, vcOp, vcF, isPure, putS, vcCall, St.ev, St.put, lk, AVal.ofVal, initS, Nat.reduceLT, true_and, and_true, vBin, vUn, vPick, vConv, vPart, vLoad, vStore, vIdxA, vIdx, vFldA, vExt, vLen, vMin, vNil, vAlloc, vBox, vBuild, vBuildSl, vMake, vSlice, bnd, partsA, fillA, decAll, AVal.flat, AVal.cell, cellsOk, setRange, ETy.enc, ETy.dec, ETy.sz, ETy.d, cond, Nat.reduceBEq, Nat.reduceAdd, Int.toNat_natCast, List.length_set, List.length_append, List.length_replicate, List.length_take, Nat.reduceSub, Nat.reduceEqDiff, get_loc, setBox_loc, next_eq, List.length_cons, List.length_nil, List.map_cons, List.map_nil, List.append_nil, List.nil_append, List.cons_append, List.set_cons_zero, List.set_cons_succ, getD_zero, getD_succ, List.getElem?_cons_succ, List.getElem?_cons_zero, List.take_succ_cons, List.take_zero, List.drop_succ_cons, List.drop_zero, List.all_cons, List.all_nil, Bool.and_true, Bool.true_and, Option.bind_some, Option.map_some, Option.map_none, decide_eq_true_eq, decide_eq_false_iff_not, ne_eq, Bool.not_eq_true, Bool.not_eq_false, Decidable.not_not, not_true_eq_false, not_false_eq_true, forall_const, false_implies, Bool.true_eq_false, Bool.false_eq_true, reduceCtorEq, decide_true, decide_false, Bool.not_true, Bool.not_false, if_true, if_false, Nat.zero_add, Nat.lt_irrefl, Value.oneCell', gt_iff_lt, Nat.reduceLeDiff, Nat.lt_add_one, List.length_append, vMakeMap, vLookup, vMapUpd, vMapEnt, vEntSt, vRange, vEntry, KK.of, KK.av, lkRes, entry_last, vvar_1, vzero_1, vvar_2, vzero_2, vknd_2, vsn_2, vvar_3, vzero_3, vknd_3, vsn_3, vvar_4, vzero_4, vknd_4, vsn_4, vvar_9, vzero_9, vknd_9, vsn_9, vsl_36, vkn_36, vvar_36, vzero_36, vvar_80, vzero_80, vbld_80, vpts_80, vsl_84, vkn_84, vvar_84, vzero_84, hl, hq]; try simp (disch := omega) only [wrap64])
            | (with_reducible refine hK' _ ?_; clear hK' K')
            | (with_reducible refine hK _ ?_; clear hK K)
            | ((with_reducible show vCall _ (AVal.fn 96 _) _ _ _); refine vCall_newE (hc2 _) (by simp only [List.length_append, List.length_cons, List.length_nil, Nat.reduceAdd]; rfl) ?_)
            | (with_reducible refine And.intro (And.intro rfl rfl) ?_)
            | (with_reducible refine And.intro (by omega) ?_)
            | (with_reducible refine And.intro (fun hg => ?_) (fun hg => ?_) <;> first | simp only [eq_false hg, decide_true, decide_false, and_true, true_and, and_false, false_and, not_true_eq_false, not_false_eq_true] | simp only [eq_true hg, decide_true, decide_false, and_true, true_and, and_false, false_and, not_true_eq_false, not_false_eq_true] | simp only [hg, decide_true, decide_false, and_true, true_and, and_false, false_and, not_true_eq_false, not_false_eq_true])
            | (with_reducible refine And.intro rfl (And.intro rfl rfl))
            | (with_reducible refine thenQ_n ?_)
            | (with_reducible refine thenQ_exit ?_)
            | (with_reducible refine thenQ_ret ?_)
            | (with_reducible refine midQ_ret ?_)
            | (with_reducible refine midQ_exit ?_)
            | (with_reducible refine blockQ_same ?_)
            | (with_reducible refine blockQ_ret ?_)
            | (with_reducible refine blockQ_n ?_)
            | (with_reducible refine AW.exit ?_)
            | (with_reducible refine AW.block ?_)
            | (with_reducible refine AW.cond_t rfl ?_)
            | (with_reducible refine AW.cond_f rfl ?_)
            | (with_reducible refine AW.cond_dec rfl (fun hc => ?_) (fun hc => ?_))
            | (with_reducible refine AW.cond rfl (fun hc => ?_) (fun hc => ?_) <;> try simp only [Bool.not_eq_eq_eq_not, Bool.not_true, Bool.not_false, decide_eq_true_eq, decide_eq_false_iff_not] at hc)
            | (with_reducible refine AW.seq ?_)
            | (with_reducible refine AW.skip ?_)
            | (with_reducible refine AW.ret ?_)
            | (with_reducible refine And.intro ?_ ?_)
            | (with_reducible intro hg; first | simp only [eq_false hg, decide_true, decide_false, and_true, true_and, and_false, false_and, not_true_eq_false, not_false_eq_true] | simp only [eq_true hg, decide_true, decide_false, and_true, true_and, and_false, false_and, not_true_eq_false, not_false_eq_true])
            | (with_reducible refine retQ_drop ?_; simp only [vRes, packRes, vLoad, vPart, lk, cond, Nat.reduceBEq, get_loc, getD_zero, getD_succ, true_and, List.length_cons, List.length_nil, Nat.reduceAdd, Nat.reduceLT, Nat.reduceLeDiff, List.take_succ_cons, List.take_zero, List.drop_succ_cons, List.drop_zero, vvar_1, vzero_1, vvar_2, vzero_2, vknd_2, vsn_2, vvar_3, vzero_3, vknd_3, vsn_3, vvar_4, vzero_4, vknd_4, vsn_4, vvar_9, vzero_9, vknd_9, vsn_9, vsl_36, vkn_36, vvar_36, vzero_36, vvar_80, vzero_80, vbld_80, vpts_80, vsl_84, vkn_84, vvar_84, vzero_84])
            )
          all_goals first
            | (exfalso; omega)
            | exact ⟨_, _, FinOk.drop hB (Plain.tup (plain_cons (.v _) (plain_cons (.v _) plain_nil))).ids, .inr ⟨hr2, rfl, rfl⟩⟩
            | fail
      · obtain rfl : i = P.length := by omega
        have hr2 : rps s = some out := by rw [hr, hI, Option.bind_some, allPt, if_pos hA]
        repeat' (first
          | (with_reducible refine AW.sreg envOk fun K hK => ?_)
          | (with_reducible refine AW.region envOk fun K hK => ?_)
          | (with_reducible refine vcL_nil ?_)
          | (with_reducible refine vcL_cons fun K' hK' => ?_; simp only [isC, Bool.false_or, Bool.or_true, vAppend, elems, ↓reduceDIte, List.take_length, Nat.le_refl, List.drop_zero, vGuard, undef, Bool.not_eq_eq_eq_not, dstOk, vcOp, vcF, isPure, putS, vcCall, St.ev, St.put, lk, AVal.ofVal, initS, Nat.reduceLT, true_and, and_true, vBin, vUn, vPick, vConv, vPart, vLoad, vStore, vIdxA, vIdx, vFldA, vExt, vLen, vMin, vNil, vAlloc, vBox, vBuild, vBuildSl, vMake, vSlice, bnd, partsA, fillA, decAll, AVal.flat, AVal.cell, cellsOk, setRange, ETy.enc, ETy.dec, ETy.sz, ETy.d, cond, Nat.reduceBEq, Nat.reduceAdd, Int.toNat_natCast, List.length_set, List.length_append, List.length_replicate, List.length_take, Nat.reduceSub, Nat.reduceEqDiff, get_loc, setBox_loc, next_eq, List.length_cons, List.length_nil, List.map_cons, List.map_nil, List.append_nil, List.nil_append, List.cons_append, List.set_cons_zero, List.set_cons_succ, getD_zero, getD_succ, List.getElem?_cons_succ, List.getElem?_cons_zero, List.take_succ_cons, List.take_zero, List.drop_succ_cons, List.drop_zero, List.all_cons, List.all_nil, Bool.and_true, Bool.true_and, Option.bind_some, Option.map_some, Option.map_none, decide_eq_true_eq, decide_eq_false_iff_not, ne_eq, Bool.not_eq_true, Bool.not_eq_false, Decidable.not_not, not_true_eq_false, not_false_eq_true, forall_const, false_implies, Bool.true_eq_false, Bool.false_eq_true, reduceCtorEq, decide_true, decide_false, Bool.not_true, Bool.not_false, if_true, if_false, Nat.zero_add, Nat.lt_irrefl, Value.oneCell', gt_iff_lt, Nat.reduceLeDiff, Nat.lt_add_one, List.length_append, vMakeMap, vLookup, vMapUpd, vMapEnt, vEntSt, vRange, vEntry, KK.of, KK.av, lkRes, entry_last, vvar_1, vzero_1, vvar_2, vzero_2, vknd_2, vsn_2, vvar_3, vzero_3, vknd_3, vsn_3, vvar_4, vzero_4, vknd_4, vsn_4, vvar_9, vzero_9, vknd_9, vsn_9, vsl_36, vkn_36, vvar_36, vzero_36, vvar_80, vzero_80, vbld_80, vpts_80, vsl_84, vkn_84, vvar_84, vzero_84]; try simp (disch := omega) only [wrap64])
          | (with_reducible refine hK' _ ?_; clear hK' K')
          | (with_reducible refine hK _ ?_; clear hK K)
          | (with_reducible refine And.intro (And.intro rfl rfl) ?_)
          | (with_reducible refine And.intro (by omega) ?_)
          | (with_reducible refine And.intro (fun hg => ?_) (fun hg => ?_) <;> first | simp only [eq_false hg, decide_true, decide_false, and_true, true_and, and_false, false_and, not_true_eq_false, not_false_eq_true] | simp only [eq_true hg, decide_true, decide_false, and_true, true_and, and_false, false_and, not_true_eq_false, not_false_eq_true] | simp only [hg, decide_true, decide_false, and_true, true_and, and_false, false_and, not_true_eq_false, not_false_eq_true])
          | (with_reducible refine And.intro rfl (And.intro rfl rfl))
          | (with_reducible refine thenQ_n ?_)
          | (with_reducible refine thenQ_exit ?_)
          | (with_reducible refine thenQ_ret ?_)
          | (with_reducible refine midQ_ret ?_)
          | (with_reducible refine midQ_exit ?_)
          | (with_reducible refine blockQ_same ?_)
          | (with_reducible refine blockQ_ret ?_)
          | (with_reducible refine blockQ_n ?_)
          | (with_reducible refine AW.exit ?_)
          | (with_reducible refine AW.block ?_)
          | (with_reducible refine AW.cond_t rfl ?_)
          | (with_reducible refine AW.cond_f rfl ?_)
          | (with_reducible refine AW.cond_dec rfl (fun hc => ?_) (fun hc => ?_))
          | (with_reducible refine AW.cond rfl (fun hc => ?_) (fun hc => ?_) <;> try simp only [Bool.not_eq_eq_eq_not, Bool.not_true, Bool.not_false, decide_eq_true_eq, decide_eq_false_iff_not] at hc)
          | (with_reducible refine AW.seq ?_)
          | (with_reducible refine AW.skip ?_)
          | (with_reducible refine AW.ret ?_)
          | (with_reducible refine And.intro ?_ ?_)
          | (with_reducible intro hg; first | simp only [eq_false hg, decide_true, decide_false, and_true, true_and, and_false, false_and, not_true_eq_false, not_false_eq_true] | simp only [eq_true hg, decide_true, decide_false, and_true, true_and, and_false, false_and, not_true_eq_false, not_false_eq_true])
          | (with_reducible refine retQ_drop ?_; simp only [vRes, packRes, vLoad, vPart, lk, cond, Nat.reduceBEq, get_loc, getD_zero, getD_succ, true_and, List.length_cons, List.length_nil, Nat.reduceAdd, Nat.reduceLT, Nat.reduceLeDiff, List.take_succ_cons, List.take_zero, List.drop_succ_cons, List.drop_zero, vvar_1, vzero_1, vvar_2, vzero_2, vknd_2, vsn_2, vvar_3, vzero_3, vknd_3, vsn_3, vvar_4, vzero_4, vknd_4, vsn_4, vvar_9, vzero_9, vknd_9, vsn_9, vsl_36, vkn_36, vvar_36, vzero_36, vvar_80, vzero_80, vbld_80, vpts_80, vsl_84, vkn_84, vvar_84, vzero_84])
          )
        all_goals first
          | (exfalso; omega)
          | exact ⟨_, _, FinOk.keep [0] (L := [.row false .pt out]) hB (by decide) ⟨RenB.plRow rfl, by simp, trivial⟩ (RenV.tupL (cs' := [.sl 2 (H.length + 0) 0 out.length, .v (.bool (true))]) ⟨RenV.sl (j := 0) rfl, RenV.low (.v _), trivial⟩), .inl ⟨out, hr2, rfl, rfl⟩⟩
          | fail
    · rw [if_neg h24] at hr
      refine AC.enter envOk Tryd.func70 rfl (by decide) Tryd.ntmps70 Tryd.results70 (by simp) fun hB => ?_
      repeat' (first
        | (with_reducible refine AW.sreg envOk fun K hK => ?_)
        | (with_reducible refine AW.region envOk fun K hK => ?_)
        | (with_reducible refine vcL_nil ?_)
        | (with_reducible refine vcL_cons fun K' hK' => ?_; simp only [isC, Bool.false_or, Bool.or_true, vAppend, elems, ↓reduceDIte, List.take_length, Nat.le_refl, List.drop_zero, vGuard, undef, Bool.not_eq_eq_eq_not, dstOk, vcOp, vcF, isPure, putS, vcCall, St.ev, St.put, lk, AVal.ofVal, initS, Nat.reduceLT, true_and, and_true, vBin, vUn, vPick, vConv, vPart, vLoad, vStore, vIdxA, vIdx, vFldA, vExt, vLen, vMin, vNil, vAlloc, vBox, vBuild, vBuildSl, vMake, vSlice, bnd, partsA, fillA, decAll, AVal.flat, AVal.cell, cellsOk, setRange, ETy.enc, ETy.dec, ETy.sz, ETy.d, cond, Nat.reduceBEq, Nat.reduceAdd, Int.toNat_natCast, List.length_set, List.length_append, List.length_replicate, List.length_take, Nat.reduceSub, Nat.reduceEqDiff, get_loc, setBox_loc, next_eq, List.length_cons, List.length_nil, List.map_cons, List.map_nil, List.append_nil, List.nil_append, List.cons_append, List.set_cons_zero, List.set_cons_succ, getD_zero, getD_succ, List.getElem?_cons_succ, List.getElem?_cons_zero, List.take_succ_cons, List.take_zero, List.drop_succ_cons, List.drop_zero, List.all_cons, List.all_nil, Bool.and_true, Bool.true_and, Option.bind_some, Option.map_some, Option.map_none, decide_eq_true_eq, decide_eq_false_iff_not, ne_eq, Bool.not_eq_true, Bool.not_eq_false, Decidable.not_not, not_true_eq_false, not_false_eq_true, forall_const, false_implies, Bool.true_eq_false, Bool.false_eq_true, reduceCtorEq, decide_true, decide_false, Bool.not_true, Bool.not_false, if_true, if_false, Nat.zero_add, Nat.lt_irrefl, Value.oneCell', gt_iff_lt, Nat.reduceLeDiff, Nat.lt_add_one, List.length_append, vMakeMap, vLookup, vMapUpd, vMapEnt, vEntSt, vRange, vEntry, KK.of, KK.av, lkRes, entry_last, vvar_1, vzero_1, vvar_2, vzero_2, vknd_2, vsn_2, vvar_3, vzero_3, vknd_3, vsn_3, vvar_4, vzero_4, vknd_4, vsn_4, vvar_9, vzero_9, vknd_9, vsn_9, vsl_36, vkn_36, vvar_36, vzero_36, vvar_80, vzero_80, vbld_80, vpts_80, vsl_84, vkn_84, vvar_84, vzero_84, hn']; try simp (disch := omega) only [wrap64])
        | (with_reducible refine hK' _ ?_; clear hK' K')
        | (with_reducible refine hK _ ?_; clear hK K)
        | ((with_reducible show vCall _ (AVal.fn 96 _) _ _ _); refine vCall_newE (hc _) (by simp only [List.length_append, List.length_cons, List.length_nil, Nat.reduceAdd]; rfl) ?_)
        | (with_reducible refine And.intro (And.intro rfl rfl) ?_)
        | (with_reducible refine And.intro (by omega) ?_)
        | (with_reducible refine And.intro (fun hg => ?_) (fun hg => ?_) <;> first | simp only [eq_false hg, decide_true, decide_false, and_true, true_and, and_false, false_and, not_true_eq_false, not_false_eq_true] | simp only [eq_true hg, decide_true, decide_false, and_true, true_and, and_false, false_and, not_true_eq_false, not_false_eq_true] | simp only [hg, decide_true, decide_false, and_true, true_and, and_false, false_and, not_true_eq_false, not_false_eq_true])
        | (with_reducible refine And.intro rfl (And.intro rfl rfl))
        | (with_reducible refine thenQ_n ?_)
        | (with_reducible refine thenQ_exit ?_)
        | (with_reducible refine thenQ_ret ?_)
        | (with_reducible refine midQ_ret ?_)
        | (with_reducible refine midQ_exit ?_)
        | (with_reducible refine blockQ_same ?_)
        | (with_reducible refine blockQ_ret ?_)
        | (with_reducible refine blockQ_n ?_)
        | (with_reducible refine AW.exit ?_)
        | (with_reducible refine AW.block ?_)
        | (with_reducible refine AW.cond_t rfl ?_)
        | (with_reducible refine AW.cond_f rfl ?_)
        | (with_reducible refine AW.cond_dec rfl (fun hc => ?_) (fun hc => ?_))
        | (with_reducible refine AW.cond rfl (fun hc => ?_) (fun hc => ?_) <;> try simp only [Bool.not_eq_eq_eq_not, Bool.not_true, Bool.not_false, decide_eq_true_eq, decide_eq_false_iff_not] at hc)
        | (with_reducible refine AW.seq ?_)
        | (with_reducible refine AW.skip ?_)
        | (with_reducible refine AW.ret ?_)
        | (with_reducible refine And.intro ?_ ?_)
        | (with_reducible intro hg; first | simp only [eq_false hg, decide_true, decide_false, and_true, true_and, and_false, false_and, not_true_eq_false, not_false_eq_true] | simp only [eq_true hg, decide_true, decide_false, and_true, true_and, and_false, false_and, not_true_eq_false, not_false_eq_true])
        | (with_reducible refine retQ_drop ?_; simp only [vRes, packRes, vLoad, vPart, lk, cond, Nat.reduceBEq, get_loc, getD_zero, getD_succ, true_and, List.length_cons, List.length_nil, Nat.reduceAdd, Nat.reduceLT, Nat.reduceLeDiff, List.take_succ_cons, List.take_zero, List.drop_succ_cons, List.drop_zero, vvar_1, vzero_1, vvar_2, vzero_2, vknd_2, vsn_2, vvar_3, vzero_3, vknd_3, vsn_3, vvar_4, vzero_4, vknd_4, vsn_4, vvar_9, vzero_9, vknd_9, vsn_9, vsl_36, vkn_36, vvar_36, vzero_36, vvar_80, vzero_80, vbld_80, vpts_80, vsl_84, vkn_84, vvar_84, vzero_84])
        )
      all_goals first
        | (exfalso; omega)
        | exact ⟨_, _, FinOk.drop hB (Plain.tup (plain_cons (.v _) (plain_cons (.v _) plain_nil))).ids, .inr ⟨hr, rfl, rfl⟩⟩
        | fail
end Go.Proofs.YtlgagjboijkpgaaDoor

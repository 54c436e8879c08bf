/- Texts of this seat that the law stands on, put together. No conditions. -/
import Derived.Test.YtdphlhplcmjepaaZ12
section
set_option linter.unusedSimpArgs false
set_option linter.unusedVariables false
set_option maxHeartbeats 4000000
namespace Go.Proofs.Ytdphlhplcmjepaa
open Go.Eng
theorem relI_get (n : Nat) (R : Int → Int → Prop) [∀ x y, Decidable (R x y)] {i k : Nat} (hi : i < n) (hk : k < n) : ((relM (idx n) R).getD i []).length = n ∧ ((relM (idx n) R).getD i []).getD k false = decide (R (i : Int) (k : Int)) := by
  rw [relM_get (by rw [idx_len]; exact hi)]
  refine ⟨by rw [relRow_len, idx_len], ?_⟩
  rw [relRow_get (by rw [idx_len]; exact hk), idx_get hi, idx_get hk]
theorem of77_ac (c : Ch) (hx : c.1.length ≤ 1000) (hy : c.2.length = c.1.length) (hPl : (pieces c).length ≤ 2000) {H : List ABox} {kc : Nat} (hkc : H[kc]? = some (.box false [.rd (.int .i64) c.1, .rd (.int .i64) c.2])) : AC Try.prog 77 [.ptr 1 kc 0 0] H
    (fun r H' => r = .rp [.rd (.int .i64) (idx (pieces c).length), .rd .slb (relM (idx (pieces c).length) (AP c)), .rd .slb (relM (idx (pieces c).length) (AB c))] 0 ∧ H' = H) := by
  have lA : (relM (idx (pieces c).length) (AP c)).length = (pieces c).length := by rw [relM_len, idx_len]
  have lB : (relM (idx (pieces c).length) (AB c)).length = (pieces c).length := by rw [relM_len, idx_len]
  have eB : ∀ {p q : Prop} [Decidable p] [Decidable q], (p ↔ q) → decide p = decide q := fun {p q} _ _ h => by
    by_cases hp : p
    · rw [decide_eq_true hp, decide_eq_true (h.1 hp)]
    · rw [decide_eq_false hp, decide_eq_false (fun hq => hp (h.2 hq))]
  refine AC.sealN (new := opNew H (pieces c) (relM (idx (pieces c).length) (AP c)) (relM (idx (pieces c).length) (AB c))) ?_ (Pl.ids (by (repeat' (first | exact Pl.v _ | exact Pl.junk | exact Pl.rd rfl _ | exact pl_nil | refine pl_cons ?_ ?_ | refine Pl.agg ?_ | refine Pl.tup ?_ | refine Pl.rp ?_ | refine Pl.fn ?_)); (first | done | fail))) (of77G_ac c (pieces c) hx hy hPl (fun i hi => piece_at c hi) _ _ lA lB
    (fun i hi => ⟨by rw [relM_get (by rw [idx_len]; exact hi), relRow_len, idx_len], fun k hk => by rw [(relI_get _ (AP c) hi hk).2]; exact eB Iff.rfl⟩)
    (fun i hi => ⟨by rw [relM_get (by rw [idx_len]; exact hi), relRow_len, idx_len], fun k hk => by rw [(relI_get _ (AB c) hi hk).2]; exact eB Iff.rfl⟩) hkc (fun l => pieces64p_ac c hx hy (getC hkc)))
  have lI := idx_len (pieces c).length
  unfold opNew
  split
  · rename_i h0
    have hi0 : idx (pieces c).length = [] := List.length_eq_zero_iff.1 (by rw [lI]; exact h0)
    have hm : ∀ R : Int → Int → Prop, ∀ [∀ x y, Decidable (R x y)], relM (idx (pieces c).length) R = [] := fun R _ => List.length_eq_zero_iff.1 (by rw [relM_len, lI]; exact h0)
    rw [hm, hm, hi0, ← killAll_length H]
    exact (by (repeat' (first | exact trivial | exact LentV.rowL rfl rfl rfl | exact LentV.rowL rfl rfl (by assumption) | refine LentV.boxL rfl ?_ | exact LentV.nil _ | exact LentV.same _ | refine LentV.aggL ?_ | refine And.intro ?_ ?_)); (first | done | fail))
  · rw [← killAll_length H]
    repeat' (first | exact trivial | exact LentV.rowL rfl rfl rfl | exact LentV.rowL rfl rfl lI.symm | exact LentV.rowL rfl rfl lA.symm | exact LentV.rowL rfl rfl lB.symm | refine LentV.boxL rfl ?_ | refine And.intro ?_ ?_)
def PRoutOk (c : Ch) (tr : Mz) : Prop := ChOk c ∧ Good (idx (pieces c).length) (AP c) (AB c) tr
noncomputable instance (c : Ch) (tr : Mz) : Decidable (PRoutOk c tr) := Classical.propDecidable _
theorem pieces_lim {c : Ch} (hok : ChOk c) : (pieces c).length ≤ 48 := by
  have := pieces_len c (nets_nodup c)
  have := hok.1.2.1
  omega
theorem spec46_ac (c : Ch) (hx : c.1.length ≤ 2000000) (hy : c.2.length ≤ 2000000) (tr : Mz) (hf : Fits 1048576 tr) (H : List ABox) : AC Try.prog 46 [.agg [.rd (.int .i64) (c).1, .rd (.int .i64) (c).2], .rd (.sli .i64) (tr)] H (fun r H' => r = .v (.bool (decide (PRoutOk c tr))) ∧ H' = H) := by
  by_cases hok : ChOk c
  · have hd : decide (ChOk c) = true := decide_eq_true hok
    have hyy := hok.1.2.2
    have hxx := hok.1.2.1
    have hpl := pieces_lim hok
    have lI := idx_len (pieces c).length
    refine AC.enter envOk Try.func46 rfl (by decide) Try.ntmps46 Try.results46 (by simp) fun hB => ?_
    repeat' (first
      | (with_reducible refine AW.sreg envOk fun K hK => ?_)
      | (with_reducible refine AW.region envOk fun K hK => ?_)
      | (with_reducible refine vcL_nil ?_)
      | (with_reducible (first | refine vcL_cons fun K' hK' => ?_); simp only [isC, Bool.false_or, Bool.or_true, vAppend, elems, ↓reduceDIte, List.take_length, Nat.le_refl, List.drop_zero, vGuard, undef, Bool.not_eq_eq_eq_not, dstOk, vcOp, vcF, isPure, putS, vcCall, St.ev, St.put, lk, AVal.ofVal, initS, Nat.reduceLT, true_and, and_true, vBin, vUn, vPick, vConv, vPart, vLoad, vStore, vIdxA, vIdx, vFldA, vExt, vLen, vMin, vNil, vAlloc, vBox, vBuild, vBuildSl, vMake, vSlice, bnd, partsA, fillA, decAll, AVal.flat, AVal.cell, cellsOk, setRange, ETy.enc, ETy.dec, ETy.sz, ETy.d, cond, Nat.reduceBEq, Nat.reduceAdd, Int.toNat_natCast, List.length_set, List.length_append, List.length_replicate, List.length_take, Nat.reduceSub, Nat.reduceEqDiff, get_loc, setBox_loc, next_eq, List.length_cons, List.length_nil, List.map_cons, List.map_nil, List.append_nil, List.nil_append, List.cons_append, List.set_cons_zero, List.set_cons_succ, getD_zero, getD_succ, List.getElem?_cons_succ, List.getElem?_cons_zero, List.take_succ_cons, List.take_zero, List.drop_succ_cons, List.drop_zero, List.all_cons, List.all_nil, Bool.and_true, Bool.true_and, Option.bind_some, Option.map_some, Option.map_none, decide_eq_true_eq, decide_eq_false_iff_not, ne_eq, Bool.not_eq_true, Bool.not_eq_false, Decidable.not_not, not_true_eq_false, not_false_eq_true, forall_const, false_implies, Bool.true_eq_false, Bool.false_eq_true, reduceCtorEq, decide_true, decide_false, Bool.not_true, Bool.not_false, if_true, if_false, Nat.zero_add, Nat.lt_irrefl, Value.oneCell', gt_iff_lt, Nat.reduceLeDiff, Nat.lt_add_one, List.length_append, vSealSl, vMakeMap, vLookup, vMapUpd, vMapEnt, vEntSt, vRange, vEntry, KK.of, KK.av, lkRes, entry_last, vvar_4, vzero_4, vknd_4, vsn_4, vvar_27, vzero_27, vbld_27, vsl_44, vkn_44, vvar_44, vzero_44, vvar_74, vzero_74, hd]; try simp (disch := omega) only [wrap64])
      | (with_reducible refine hK' _ ?_; clear hK' K')
      | (with_reducible refine hK _ ?_; clear hK K)
      | ((with_reducible show vCall _ (AVal.fn 49 _) _ _ _); refine vCall_pure (AC.lent0 (by (repeat' (first | exact trivial | exact LentV.rowL rfl rfl rfl | exact LentV.rowL rfl rfl (by assumption) | refine LentV.boxL rfl ?_ | exact LentV.nil _ | exact LentV.same _ | refine LentV.aggL ?_ | refine And.intro ?_ ?_)); (first | done | fail)) (by (repeat' (first | exact NoRd.v _ | exact NoRd.sl | exact NoRd.mp | exact NoRd.tup nord_nil | refine NoRd.tup ?_ | refine NoRd.agg ?_ | exact nord_nil | refine nord_cons ?_ ?_)); (first | done | fail)) (is49_ac c (by omega) (by omega) _)) ?_)
      | ((with_reducible show vcC _ 49 _ _ _); refine vcC_pure (AC.lent0 (by (repeat' (first | exact trivial | exact LentV.rowL rfl rfl rfl | exact LentV.rowL rfl rfl (by assumption) | refine LentV.boxL rfl ?_ | exact LentV.nil _ | exact LentV.same _ | refine LentV.aggL ?_ | refine And.intro ?_ ?_)); (first | done | fail)) (by (repeat' (first | exact NoRd.v _ | exact NoRd.sl | exact NoRd.mp | exact NoRd.tup nord_nil | refine NoRd.tup ?_ | refine NoRd.agg ?_ | exact nord_nil | refine nord_cons ?_ ?_)); (first | done | fail)) (is49_ac c (by omega) (by omega) _)) ?_)
      | ((with_reducible show vCall _ (AVal.fn 77 _) _ _ _); refine vCall_pure (of77_ac c (by omega) hyy (by omega) (by rw [app_get]; rfl)) ?_)
      | ((with_reducible show vcC _ 77 _ _ _); refine vcC_pure (of77_ac c (by omega) hyy (by omega) (by rw [app_get]; rfl)) ?_)
      | ((with_reducible show vCall _ (AVal.fn 73 _) _ _ _); refine vCall_pure (trk73_ac (idx (pieces c).length) (AP c) (AB c) _ _ (relM_ok _ _) (relM_ok _ _) (idx_nodup _) (by omega) tr hf _) ?_)
      | ((with_reducible show vcC _ 73 _ _ _); refine vcC_pure (trk73_ac (idx (pieces c).length) (AP c) (AB c) _ _ (relM_ok _ _) (relM_ok _ _) (idx_nodup _) (by omega) tr hf _) ?_)
      | (with_reducible refine And.intro (And.intro rfl rfl) ?_)
      | (with_reducible refine And.intro (by omega) ?_)
      | (with_reducible refine And.intro (fun hg => ?_) (fun hg => ?_) <;> first | simp only [eq_false hg, decide_true, decide_false, and_true, true_and, and_false, false_and, not_true_eq_false, not_false_eq_true] | simp only [eq_true hg, decide_true, decide_false, and_true, true_and, and_false, false_and, not_true_eq_false, not_false_eq_true] | simp only [hg, decide_true, decide_false, and_true, true_and, and_false, false_and, not_true_eq_false, not_false_eq_true])
      | (with_reducible refine And.intro rfl (And.intro rfl rfl))
      | (with_reducible refine thenQ_n ?_)
      | (with_reducible refine thenQ_exit ?_)
      | (with_reducible refine thenQ_ret ?_)
      | (with_reducible refine midQ_ret ?_)
      | (with_reducible refine midQ_exit ?_)
      | (with_reducible refine blockQ_same ?_)
      | (with_reducible refine blockQ_ret ?_)
      | (with_reducible refine blockQ_n ?_)
      | (with_reducible refine AW.exit ?_)
      | (with_reducible refine AW.block ?_)
      | (with_reducible refine AW.cond_t rfl ?_)
      | (with_reducible refine AW.cond_f rfl ?_)
      | (with_reducible refine AW.cond_dec rfl (fun hc => ?_) (fun hc => ?_))
      | (with_reducible refine AW.cond rfl (fun hc => ?_) (fun hc => ?_) <;> try simp only [Bool.not_eq_eq_eq_not, Bool.not_true, Bool.not_false, decide_eq_true_eq, decide_eq_false_iff_not] at hc)
      | (with_reducible refine AW.seq ?_)
      | (with_reducible refine AW.skip ?_)
      | (with_reducible refine AW.ret ?_)
      | (with_reducible refine And.intro ?_ ?_)
      | (with_reducible intro hg; first | simp only [eq_false hg, decide_true, decide_false, and_true, true_and, and_false, false_and, not_true_eq_false, not_false_eq_true] | simp only [eq_true hg, decide_true, decide_false, and_true, true_and, and_false, false_and, not_true_eq_false, not_false_eq_true])
      | (with_reducible refine retQ_drop ?_; simp only [vRes, packRes, vLoad, vPart, lk, cond, Nat.reduceBEq, get_loc, getD_zero, getD_succ, true_and, List.length_cons, List.length_nil, Nat.reduceAdd, Nat.reduceLT, Nat.reduceLeDiff, List.take_succ_cons, List.take_zero, List.drop_succ_cons, List.drop_zero, vvar_4, vzero_4, vknd_4, vsn_4, vvar_27, vzero_27, vbld_27, vsl_44, vkn_44, vvar_44, vzero_44, vvar_74, vzero_74])
      )
    refine ⟨_, _, FinOk.drop hB (Pl.ids (by (repeat' (first | exact Pl.v _ | exact Pl.junk | exact Pl.rd rfl _ | exact pl_nil | refine pl_cons ?_ ?_ | refine Pl.agg ?_ | refine Pl.tup ?_ | refine Pl.rp ?_ | refine Pl.fn ?_)); (first | done | fail))), ?_, rfl⟩
    refine v_bool ?_
    rw [decide_eq_true_eq]
    exact ⟨fun h => ⟨hok, h⟩, fun h => h.2⟩
  · have hd : decide (ChOk c) = false := decide_eq_false hok
    refine AC.enter envOk Try.func46 rfl (by decide) Try.ntmps46 Try.results46 (by simp) fun hB => ?_
    repeat' (first
      | (with_reducible refine AW.sreg envOk fun K hK => ?_)
      | (with_reducible refine AW.region envOk fun K hK => ?_)
      | (with_reducible refine vcL_nil ?_)
      | (with_reducible (first | refine vcL_cons fun K' hK' => ?_); simp only [isC, Bool.false_or, Bool.or_true, vAppend, elems, ↓reduceDIte, List.take_length, Nat.le_refl, List.drop_zero, vGuard, undef, Bool.not_eq_eq_eq_not, dstOk, vcOp, vcF, isPure, putS, vcCall, St.ev, St.put, lk, AVal.ofVal, initS, Nat.reduceLT, true_and, and_true, vBin, vUn, vPick, vConv, vPart, vLoad, vStore, vIdxA, vIdx, vFldA, vExt, vLen, vMin, vNil, vAlloc, vBox, vBuild, vBuildSl, vMake, vSlice, bnd, partsA, fillA, decAll, AVal.flat, AVal.cell, cellsOk, setRange, ETy.enc, ETy.dec, ETy.sz, ETy.d, cond, Nat.reduceBEq, Nat.reduceAdd, Int.toNat_natCast, List.length_set, List.length_append, List.length_replicate, List.length_take, Nat.reduceSub, Nat.reduceEqDiff, get_loc, setBox_loc, next_eq, List.length_cons, List.length_nil, List.map_cons, List.map_nil, List.append_nil, List.nil_append, List.cons_append, List.set_cons_zero, List.set_cons_succ, getD_zero, getD_succ, List.getElem?_cons_succ, List.getElem?_cons_zero, List.take_succ_cons, List.take_zero, List.drop_succ_cons, List.drop_zero, List.all_cons, List.all_nil, Bool.and_true, Bool.true_and, Option.bind_some, Option.map_some, Option.map_none, decide_eq_true_eq, decide_eq_false_iff_not, ne_eq, Bool.not_eq_true, Bool.not_eq_false, Decidable.not_not, not_true_eq_false, not_false_eq_true, forall_const, false_implies, Bool.true_eq_false, Bool.false_eq_true, reduceCtorEq, decide_true, decide_false, Bool.not_true, Bool.not_false, if_true, if_false, Nat.zero_add, Nat.lt_irrefl, Value.oneCell', gt_iff_lt, Nat.reduceLeDiff, Nat.lt_add_one, List.length_append, vSealSl, vMakeMap, vLookup, vMapUpd, vMapEnt, vEntSt, vRange, vEntry, KK.of, KK.av, lkRes, entry_last, vvar_4, vzero_4, vknd_4, vsn_4, vvar_27, vzero_27, vbld_27, vsl_44, vkn_44, vvar_44, vzero_44, vvar_74, vzero_74, hd]; try simp (disch := omega) only [wrap64])
      | (with_reducible refine hK' _ ?_; clear hK' K')
      | (with_reducible refine hK _ ?_; clear hK K)
      | ((with_reducible show vCall _ (AVal.fn 49 _) _ _ _); refine vCall_pure (AC.lent0 (by (repeat' (first | exact trivial | exact LentV.rowL rfl rfl rfl | exact LentV.rowL rfl rfl (by assumption) | refine LentV.boxL rfl ?_ | exact LentV.nil _ | exact LentV.same _ | refine LentV.aggL ?_ | refine And.intro ?_ ?_)); (first | done | fail)) (by (repeat' (first | exact NoRd.v _ | exact NoRd.sl | exact NoRd.mp | exact NoRd.tup nord_nil | refine NoRd.tup ?_ | refine NoRd.agg ?_ | exact nord_nil | refine nord_cons ?_ ?_)); (first | done | fail)) (is49_ac c (by omega) (by omega) _)) ?_)
      | ((with_reducible show vcC _ 49 _ _ _); refine vcC_pure (AC.lent0 (by (repeat' (first | exact trivial | exact LentV.rowL rfl rfl rfl | exact LentV.rowL rfl rfl (by assumption) | refine LentV.boxL rfl ?_ | exact LentV.nil _ | exact LentV.same _ | refine LentV.aggL ?_ | refine And.intro ?_ ?_)); (first | done | fail)) (by (repeat' (first | exact NoRd.v _ | exact NoRd.sl | exact NoRd.mp | exact NoRd.tup nord_nil | refine NoRd.tup ?_ | refine NoRd.agg ?_ | exact nord_nil | refine nord_cons ?_ ?_)); (first | done | fail)) (is49_ac c (by omega) (by omega) _)) ?_)
      | (with_reducible refine And.intro (And.intro rfl rfl) ?_)
      | (with_reducible refine And.intro (by omega) ?_)
      | (with_reducible refine And.intro (fun hg => ?_) (fun hg => ?_) <;> first | simp only [eq_false hg, decide_true, decide_false, and_true, true_and, and_false, false_and, not_true_eq_false, not_false_eq_true] | simp only [eq_true hg, decide_true, decide_false, and_true, true_and, and_false, false_and, not_true_eq_false, not_false_eq_true] | simp only [hg, decide_true, decide_false, and_true, true_and, and_false, false_and, not_true_eq_false, not_false_eq_true])
      | (with_reducible refine And.intro rfl (And.intro rfl rfl))
      | (with_reducible refine thenQ_n ?_)
      | (with_reducible refine thenQ_exit ?_)
      | (with_reducible refine thenQ_ret ?_)
      | (with_reducible refine midQ_ret ?_)
      | (with_reducible refine midQ_exit ?_)
      | (with_reducible refine blockQ_same ?_)
      | (with_reducible refine blockQ_ret ?_)
      | (with_reducible refine blockQ_n ?_)
      | (with_reducible refine AW.exit ?_)
      | (with_reducible refine AW.block ?_)
      | (with_reducible refine AW.cond_t rfl ?_)
      | (with_reducible refine AW.cond_f rfl ?_)
      | (with_reducible refine AW.cond_dec rfl (fun hc => ?_) (fun hc => ?_))
      | (with_reducible refine AW.cond rfl (fun hc => ?_) (fun hc => ?_) <;> try simp only [Bool.not_eq_eq_eq_not, Bool.not_true, Bool.not_false, decide_eq_true_eq, decide_eq_false_iff_not] at hc)
      | (with_reducible refine AW.seq ?_)
      | (with_reducible refine AW.skip ?_)
      | (with_reducible refine AW.ret ?_)
      | (with_reducible refine And.intro ?_ ?_)
      | (with_reducible intro hg; first | simp only [eq_false hg, decide_true, decide_false, and_true, true_and, and_false, false_and, not_true_eq_false, not_false_eq_true] | simp only [eq_true hg, decide_true, decide_false, and_true, true_and, and_false, false_and, not_true_eq_false, not_false_eq_true])
      | (with_reducible refine retQ_drop ?_; simp only [vRes, packRes, vLoad, vPart, lk, cond, Nat.reduceBEq, get_loc, getD_zero, getD_succ, true_and, List.length_cons, List.length_nil, Nat.reduceAdd, Nat.reduceLT, Nat.reduceLeDiff, List.take_succ_cons, List.take_zero, List.drop_succ_cons, List.drop_zero, vvar_4, vzero_4, vknd_4, vsn_4, vvar_27, vzero_27, vbld_27, vsl_44, vkn_44, vvar_44, vzero_44, vvar_74, vzero_74])
      )
    refine ⟨_, _, FinOk.drop hB (Pl.ids (by (repeat' (first | exact Pl.v _ | exact Pl.junk | exact Pl.rd rfl _ | exact pl_nil | refine pl_cons ?_ ?_ | refine Pl.agg ?_ | refine Pl.tup ?_ | refine Pl.rp ?_ | refine Pl.fn ?_)); (first | done | fail))), ?_, rfl⟩
    exact v_bool ⟨fun h => absurd h (by decide), fun h => absurd h.1 hok⟩
theorem apT_rel (c : Ch) : Rel (idx (pieces c).length) (AP c) (mk (apT (pieces c) (pieces c).length 0) (pieces c).length) := by
  have h := mk_rel (S := apT (pieces c) (pieces c).length 0) (ns := idx (pieces c).length) (R := AP c) (fun p hp j hj => by
    rw [idx_len] at hp hj
    rw [idx_get hp, idx_get hj]
    unfold apT UpTo
    exact ⟨fun h => h.1, fun h => ⟨h, .inl hp⟩⟩)
  rwa [idx_len] at h
theorem ahT_rel (c : Ch) : Rel (idx (pieces c).length) (fun k i => AB c i k) (mk (ahT c (pieces c) c.1.length 0 0) (pieces c).length) := by
  have h := mk_rel (S := ahT c (pieces c) c.1.length 0 0) (ns := idx (pieces c).length) (R := fun k i => AB c i k) (fun p hp j hj => by
    rw [idx_len] at hp hj
    rw [idx_get hp, idx_get hj]
    unfold ahT UpTo hit AB PB
    simp only [Int.toNat_natCast]
    have hpi := piece_at c hj
    obtain ⟨_, _, _, h3⟩ := hpi
    constructor
    · rintro (⟨a, h1, ⟨g1, g2⟩, g3, g4, g5⟩ | ⟨_, h⟩)
      · exact ⟨by rw [← g1, ← g2]; exact g5, a, g3, g4, g1, g2⟩
      · omega
    · rintro ⟨g5, a, g3, g4, g1, g2⟩
      exact .inl ⟨a, by omega, ⟨g1, g2⟩, g3, g4, by rw [g1, g2]; exact g5⟩)
  rwa [idx_len] at h
theorem impl47_ac (c : Ch) (hx : c.1.length ≤ 2000000) (hy : c.2.length ≤ 2000000) (tr : Mz) (hf : Fits 1048576 tr) (H : List ABox) : AC Try.prog 47 [.agg [.rd (.int .i64) (c).1, .rd (.int .i64) (c).2], .rd (.sli .i64) (tr)] H (fun r H' => r = .v (.bool (decide (PRoutOk c tr))) ∧ H' = H) := by
  by_cases hok : ChOk c
  · have hd : decide (ChOk c) = true := decide_eq_true hok
    have hyy := hok.1.2.2
    have hxx := hok.1.2.1
    have hpl := pieces_lim hok
    have lI := idx_len (pieces c).length
    have hm1 := (mk_len (apT (pieces c) (pieces c).length 0) (pieces c).length).symm
    have hm2 := (mk_len (ahT c (pieces c) c.1.length 0 0) (pieces c).length).symm
    refine AC.enter envOk Try.func47 rfl (by decide) Try.ntmps47 Try.results47 (by simp) fun hB => ?_
    repeat' (first
      | (with_reducible refine AW.sreg envOk fun K hK => ?_)
      | (with_reducible refine AW.region envOk fun K hK => ?_)
      | (with_reducible refine vcL_nil ?_)
      | (with_reducible (first | refine vcL_cons fun K' hK' => ?_); simp only [isC, Bool.false_or, Bool.or_true, vAppend, elems, ↓reduceDIte, List.take_length, Nat.le_refl, List.drop_zero, vGuard, undef, Bool.not_eq_eq_eq_not, dstOk, vcOp, vcF, isPure, putS, vcCall, St.ev, St.put, lk, AVal.ofVal, initS, Nat.reduceLT, true_and, and_true, vBin, vUn, vPick, vConv, vPart, vLoad, vStore, vIdxA, vIdx, vFldA, vExt, vLen, vMin, vNil, vAlloc, vBox, vBuild, vBuildSl, vMake, vSlice, bnd, partsA, fillA, decAll, AVal.flat, AVal.cell, cellsOk, setRange, ETy.enc, ETy.dec, ETy.sz, ETy.d, cond, Nat.reduceBEq, Nat.reduceAdd, Int.toNat_natCast, List.length_set, List.length_append, List.length_replicate, List.length_take, Nat.reduceSub, Nat.reduceEqDiff, get_loc, setBox_loc, next_eq, List.length_cons, List.length_nil, List.map_cons, List.map_nil, List.append_nil, List.nil_append, List.cons_append, List.set_cons_zero, List.set_cons_succ, getD_zero, getD_succ, List.getElem?_cons_succ, List.getElem?_cons_zero, List.take_succ_cons, List.take_zero, List.drop_succ_cons, List.drop_zero, List.all_cons, List.all_nil, Bool.and_true, Bool.true_and, Option.bind_some, Option.map_some, Option.map_none, decide_eq_true_eq, decide_eq_false_iff_not, ne_eq, Bool.not_eq_true, Bool.not_eq_false, Decidable.not_not, not_true_eq_false, not_false_eq_true, forall_const, false_implies, Bool.true_eq_false, Bool.false_eq_true, reduceCtorEq, decide_true, decide_false, Bool.not_true, Bool.not_false, if_true, if_false, Nat.zero_add, Nat.lt_irrefl, Value.oneCell', gt_iff_lt, Nat.reduceLeDiff, Nat.lt_add_one, List.length_append, vSealSl, vMakeMap, vLookup, vMapUpd, vMapEnt, vEntSt, vRange, vEntry, KK.of, KK.av, lkRes, entry_last, vvar_1, vzero_1, vvar_3, vzero_3, vknd_3, vsn_3, vvar_4, vzero_4, vknd_4, vsn_4, vsl_22, vkn_22, vvar_22, vzero_22, vvar_27, vzero_27, vbld_27, vsl_44, vkn_44, vvar_44, vzero_44, vsl_77, vkn_77, vvar_77, vzero_77, vvar_92, vzero_92, vbld_92, hd]; try simp (disch := omega) only [wrap64])
      | (with_reducible refine hK' _ ?_; clear hK' K')
      | (with_reducible refine hK _ ?_; clear hK K)
      | ((with_reducible show vCall _ (AVal.fn 17 _) _ _ _); refine vCall_pure (is17_ac c (by omega) (by omega) _) ?_)
      | ((with_reducible show vcC _ 17 _ _ _); refine vcC_pure (is17_ac c (by omega) (by omega) _) ?_)
      | ((with_reducible show vCall _ (AVal.fn 65 _) _ _ _); refine vCall_pure (pieces65s_ac c (by omega) hyy (by rw [app_get]; rfl)) ?_)
      | ((with_reducible show vcC _ 65 _ _ _); refine vcC_pure (pieces65s_ac c (by omega) hyy (by rw [app_get]; rfl)) ?_)
      | (with_reducible refine And.intro (And.intro rfl rfl) ?_)
      | (with_reducible refine And.intro (by omega) ?_)
      | (with_reducible refine And.intro (fun hg => ?_) (fun hg => ?_) <;> first | simp only [eq_false hg, decide_true, decide_false, and_true, true_and, and_false, false_and, not_true_eq_false, not_false_eq_true] | simp only [eq_true hg, decide_true, decide_false, and_true, true_and, and_false, false_and, not_true_eq_false, not_false_eq_true] | simp only [hg, decide_true, decide_false, and_true, true_and, and_false, false_and, not_true_eq_false, not_false_eq_true])
      | (with_reducible refine And.intro rfl (And.intro rfl rfl))
      | (with_reducible refine thenQ_n ?_)
      | (with_reducible refine thenQ_exit ?_)
      | (with_reducible refine thenQ_ret ?_)
      | (with_reducible refine midQ_ret ?_)
      | (with_reducible refine midQ_exit ?_)
      | (with_reducible refine blockQ_same ?_)
      | (with_reducible refine blockQ_ret ?_)
      | (with_reducible refine blockQ_n ?_)
      | (with_reducible refine AW.exit ?_)
      | (with_reducible refine AW.block ?_)
      | (with_reducible refine AW.cond_t rfl ?_)
      | (with_reducible refine AW.cond_f rfl ?_)
      | (with_reducible refine AW.cond_dec rfl (fun hc => ?_) (fun hc => ?_))
      | (with_reducible refine AW.cond rfl (fun hc => ?_) (fun hc => ?_) <;> try simp only [Bool.not_eq_eq_eq_not, Bool.not_true, Bool.not_false, decide_eq_true_eq, decide_eq_false_iff_not] at hc)
      | (with_reducible refine AW.seq ?_)
      | (with_reducible refine AW.skip ?_)
      | (with_reducible refine AW.ret ?_)
      | (with_reducible refine And.intro ?_ ?_)
      | (with_reducible intro hg; first | simp only [eq_false hg, decide_true, decide_false, and_true, true_and, and_false, false_and, not_true_eq_false, not_false_eq_true] | simp only [eq_true hg, decide_true, decide_false, and_true, true_and, and_false, false_and, not_true_eq_false, not_false_eq_true])
      | (with_reducible refine retQ_drop ?_; simp only [vRes, packRes, vLoad, vPart, lk, cond, Nat.reduceBEq, get_loc, getD_zero, getD_succ, true_and, List.length_cons, List.length_nil, Nat.reduceAdd, Nat.reduceLT, Nat.reduceLeDiff, List.take_succ_cons, List.take_zero, List.drop_succ_cons, List.drop_zero, vvar_1, vzero_1, vvar_3, vzero_3, vknd_3, vsn_3, vvar_4, vzero_4, vknd_4, vsn_4, vsl_22, vkn_22, vvar_22, vzero_22, vvar_27, vzero_27, vbld_27, vsl_44, vkn_44, vvar_44, vzero_44, vsl_77, vkn_77, vvar_77, vzero_77, vvar_92, vzero_92, vbld_92])
      )
    refine AW.loop (fun i : Nat => (⟨35, [(0, .agg [.rd (.int .i64) (c).1, .rd (.int .i64) (c).2]), (1, .rd (.sli .i64) (tr)), (2, .ptr 1 (H.length + 0) 0 0), (5, .sl 1 (H.length + 1) 0 (i)), (14, .v (.int .i64 (((pieces c).length : Int)))), (15, .v (.int .i64 ((i : Int))))], H, [.box false [.rd (.int .i64) c.1, .rd (.int .i64) c.2], .row false (.int .i64) (idx i)]⟩ : St)) (fun i => i ≤ (pieces c).length) (fun i => (pieces c).length - i) 0 (Nat.zero_le _) (Weak.slots (by repeat' first | exact trivial | exact ⟨rfl, trivial⟩ | refine ⟨rfl, ?_⟩)) ?_
    intro i hi
    have lIi := idx_len i
    have hti : (idx i).take i = idx i := List.take_of_length_le (by rw [lIi]; exact Nat.le_refl _)
    by_cases hin : i < (pieces c).length
    ·
      repeat' (first
        | (with_reducible refine AW.sreg envOk fun K hK => ?_)
        | (with_reducible refine AW.region envOk fun K hK => ?_)
        | (with_reducible refine vcL_nil ?_)
        | (with_reducible (first | refine vcL_cons fun K' hK' => ?_); simp only [isC, Bool.false_or, Bool.or_true, vAppend, elems, ↓reduceDIte, List.take_length, Nat.le_refl, List.drop_zero, vGuard, undef, Bool.not_eq_eq_eq_not, dstOk, vcOp, vcF, isPure, putS, vcCall, St.ev, St.put, lk, AVal.ofVal, initS, Nat.reduceLT, true_and, and_true, vBin, vUn, vPick, vConv, vPart, vLoad, vStore, vIdxA, vIdx, vFldA, vExt, vLen, vMin, vNil, vAlloc, vBox, vBuild, vBuildSl, vMake, vSlice, bnd, partsA, fillA, decAll, AVal.flat, AVal.cell, cellsOk, setRange, ETy.enc, ETy.dec, ETy.sz, ETy.d, cond, Nat.reduceBEq, Nat.reduceAdd, Int.toNat_natCast, List.length_set, List.length_append, List.length_replicate, List.length_take, Nat.reduceSub, Nat.reduceEqDiff, get_loc, setBox_loc, next_eq, List.length_cons, List.length_nil, List.map_cons, List.map_nil, List.append_nil, List.nil_append, List.cons_append, List.set_cons_zero, List.set_cons_succ, getD_zero, getD_succ, List.getElem?_cons_succ, List.getElem?_cons_zero, List.take_succ_cons, List.take_zero, List.drop_succ_cons, List.drop_zero, List.all_cons, List.all_nil, Bool.and_true, Bool.true_and, Option.bind_some, Option.map_some, Option.map_none, decide_eq_true_eq, decide_eq_false_iff_not, ne_eq, Bool.not_eq_true, Bool.not_eq_false, Decidable.not_not, not_true_eq_false, not_false_eq_true, forall_const, false_implies, Bool.true_eq_false, Bool.false_eq_true, reduceCtorEq, decide_true, decide_false, Bool.not_true, Bool.not_false, if_true, if_false, Nat.zero_add, Nat.lt_irrefl, Value.oneCell', gt_iff_lt, Nat.reduceLeDiff, Nat.lt_add_one, List.length_append, vSealSl, vMakeMap, vLookup, vMapUpd, vMapEnt, vEntSt, vRange, vEntry, KK.of, KK.av, lkRes, entry_last, vvar_1, vzero_1, vvar_3, vzero_3, vknd_3, vsn_3, vvar_4, vzero_4, vknd_4, vsn_4, vsl_22, vkn_22, vvar_22, vzero_22, vvar_27, vzero_27, vbld_27, vsl_44, vkn_44, vvar_44, vzero_44, vsl_77, vkn_77, vvar_77, vzero_77, vvar_92, vzero_92, vbld_92, lIi, hti]; try simp (disch := omega) only [wrap64])
        | (with_reducible refine hK' _ ?_; clear hK' K')
        | (with_reducible refine hK _ ?_; clear hK K)
        | (with_reducible refine And.intro (And.intro rfl rfl) ?_)
        | (with_reducible refine And.intro (by omega) ?_)
        | (with_reducible refine And.intro (fun hg => ?_) (fun hg => ?_) <;> first | simp only [eq_false hg, decide_true, decide_false, and_true, true_and, and_false, false_and, not_true_eq_false, not_false_eq_true] | simp only [eq_true hg, decide_true, decide_false, and_true, true_and, and_false, false_and, not_true_eq_false, not_false_eq_true] | simp only [hg, decide_true, decide_false, and_true, true_and, and_false, false_and, not_true_eq_false, not_false_eq_true])
        | (with_reducible refine And.intro rfl (And.intro rfl rfl))
        | (with_reducible refine thenQ_n ?_)
        | (with_reducible refine thenQ_exit ?_)
        | (with_reducible refine thenQ_ret ?_)
        | (with_reducible refine midQ_ret ?_)
        | (with_reducible refine midQ_exit ?_)
        | (with_reducible refine blockQ_same ?_)
        | (with_reducible refine blockQ_ret ?_)
        | (with_reducible refine blockQ_n ?_)
        | (with_reducible refine AW.exit ?_)
        | (with_reducible refine AW.block ?_)
        | (with_reducible refine AW.cond_t rfl ?_)
        | (with_reducible refine AW.cond_f rfl ?_)
        | (with_reducible refine AW.cond_dec rfl (fun hc => ?_) (fun hc => ?_))
        | (with_reducible refine AW.cond rfl (fun hc => ?_) (fun hc => ?_) <;> try simp only [Bool.not_eq_eq_eq_not, Bool.not_true, Bool.not_false, decide_eq_true_eq, decide_eq_false_iff_not] at hc)
        | (with_reducible refine AW.seq ?_)
        | (with_reducible refine AW.skip ?_)
        | (with_reducible refine AW.ret ?_)
        | (with_reducible refine And.intro ?_ ?_)
        | (with_reducible intro hg; first | simp only [eq_false hg, decide_true, decide_false, and_true, true_and, and_false, false_and, not_true_eq_false, not_false_eq_true] | simp only [eq_true hg, decide_true, decide_false, and_true, true_and, and_false, false_and, not_true_eq_false, not_false_eq_true])
        | (with_reducible refine retQ_drop ?_; simp only [vRes, packRes, vLoad, vPart, lk, cond, Nat.reduceBEq, get_loc, getD_zero, getD_succ, true_and, List.length_cons, List.length_nil, Nat.reduceAdd, Nat.reduceLT, Nat.reduceLeDiff, List.take_succ_cons, List.take_zero, List.drop_succ_cons, List.drop_zero, vvar_1, vzero_1, vvar_3, vzero_3, vknd_3, vsn_3, vvar_4, vzero_4, vknd_4, vsn_4, vsl_22, vkn_22, vvar_22, vzero_22, vvar_27, vzero_27, vbld_27, vsl_44, vkn_44, vvar_44, vzero_44, vsl_77, vkn_77, vvar_77, vzero_77, vvar_92, vzero_92, vbld_92])
        )
      all_goals first
        | (exfalso; omega)
        | skip
      refine ⟨i + 1, by omega, by omega, ?_⟩
      rw [idx_snoc i]
      exact (Weak.sel [0, 3] hB (by decide) (by (repeat' (first | exact trivial | exact RenB.plRow rfl | exact RenB.dead _ | exact RenB.map _ _ | exact RenB.iter rfl | refine And.intro ?_ ?_ | (refine RenB.plBox ?_; (repeat' (first | exact Pl.v _ | exact Pl.junk | exact Pl.rd rfl _ | exact pl_nil | refine pl_cons ?_ ?_ | refine Pl.agg ?_ | refine Pl.tup ?_ | refine Pl.rp ?_ | refine Pl.fn ?_)); (first | done | fail)) | refine RenB.of ?_ | exact RenV.ptr rfl | exact RenV.sl rfl | exact RenV.mp rfl | exact RenV.it rfl | (refine RenV.pl ?_; (repeat' (first | exact Pl.v _ | exact Pl.junk | exact Pl.rd rfl _ | exact pl_nil | refine pl_cons ?_ ?_ | refine Pl.agg ?_ | refine Pl.tup ?_ | refine Pl.rp ?_ | refine Pl.fn ?_)); (first | done | fail)) | refine RenV.aggL ?_ | refine RenV.fnL ?_ | exact Nat.lt_of_sub_pos (by decide) | (simp; (first | done | fail)))); (first | done | fail)) (by (repeat' (first | exact trivial | exact RenV.ptr rfl | exact RenV.sl rfl | exact RenV.mp rfl | exact RenV.it rfl | exact RenV.low (.v _) | exact RenV.low (IdsLt.ptr (by assumption)) | (refine RenV.pl ?_; (repeat' (first | exact Pl.v _ | exact Pl.junk | exact Pl.rd rfl _ | exact pl_nil | refine pl_cons ?_ ?_ | refine Pl.agg ?_ | refine Pl.tup ?_ | refine Pl.rp ?_ | refine Pl.fn ?_)); (first | done | fail)) | refine RenV.fnL ?_ | refine RenV.aggL ?_ | refine And.intro ?_ ?_)); (first | done | fail)))
    · obtain rfl : i = (pieces c).length := by omega
      refine AW.weak (st2 := (⟨35, [(0, .agg [.rd (.int .i64) (c).1, .rd (.int .i64) (c).2]), (1, .rd (.sli .i64) (tr)), (2, .ptr 1 (H.length + 0) 0 0), (5, .rd (.int .i64) (idx (pieces c).length)), (14, .v (.int .i64 (((pieces c).length : Int)))), (15, .v (.int .i64 (((pieces c).length : Int))))], H, [.box false [.rd (.int .i64) c.1, .rd (.int .i64) c.2], .dead]⟩ : St)) ?_ ?_
      · refine Weak.seal 1 (e := .int .i64) (xs := idx (pieces c).length) (by simp) rfl rfl ?_ ?_
        · repeat' (first | exact trivial | exact SealB.same _ | exact SealB.dead _ | refine And.intro ?_ ?_)
        · repeat' (first | exact trivial | exact SealV.same _ | exact SealV.whole rfl lI.symm | refine And.intro ?_ ?_)
      by_cases hall : AllIn (idx (pieces c).length) tr
      · have hR : placesR (idx (pieces c).length) tr = .tup [.rd (.sli .i64) (psM (idx (pieces c).length) tr), .v (.bool (true))] := if_pos hall
        repeat' (first
          | (with_reducible refine AW.sreg envOk fun K hK => ?_)
          | (with_reducible refine AW.region envOk fun K hK => ?_)
          | (with_reducible refine vcL_nil ?_)
          | (with_reducible (first | refine vcL_cons fun K' hK' => ?_); simp only [isC, Bool.false_or, Bool.or_true, vAppend, elems, ↓reduceDIte, List.take_length, Nat.le_refl, List.drop_zero, vGuard, undef, Bool.not_eq_eq_eq_not, dstOk, vcOp, vcF, isPure, putS, vcCall, St.ev, St.put, lk, AVal.ofVal, initS, Nat.reduceLT, true_and, and_true, vBin, vUn, vPick, vConv, vPart, vLoad, vStore, vIdxA, vIdx, vFldA, vExt, vLen, vMin, vNil, vAlloc, vBox, vBuild, vBuildSl, vMake, vSlice, bnd, partsA, fillA, decAll, AVal.flat, AVal.cell, cellsOk, setRange, ETy.enc, ETy.dec, ETy.sz, ETy.d, cond, Nat.reduceBEq, Nat.reduceAdd, Int.toNat_natCast, List.length_set, List.length_append, List.length_replicate, List.length_take, Nat.reduceSub, Nat.reduceEqDiff, get_loc, setBox_loc, next_eq, List.length_cons, List.length_nil, List.map_cons, List.map_nil, List.append_nil, List.nil_append, List.cons_append, List.set_cons_zero, List.set_cons_succ, getD_zero, getD_succ, List.getElem?_cons_succ, List.getElem?_cons_zero, List.take_succ_cons, List.take_zero, List.drop_succ_cons, List.drop_zero, List.all_cons, List.all_nil, Bool.and_true, Bool.true_and, Option.bind_some, Option.map_some, Option.map_none, decide_eq_true_eq, decide_eq_false_iff_not, ne_eq, Bool.not_eq_true, Bool.not_eq_false, Decidable.not_not, not_true_eq_false, not_false_eq_true, forall_const, false_implies, Bool.true_eq_false, Bool.false_eq_true, reduceCtorEq, decide_true, decide_false, Bool.not_true, Bool.not_false, if_true, if_false, Nat.zero_add, Nat.lt_irrefl, Value.oneCell', gt_iff_lt, Nat.reduceLeDiff, Nat.lt_add_one, List.length_append, vSealSl, vMakeMap, vLookup, vMapUpd, vMapEnt, vEntSt, vRange, vEntry, KK.of, KK.av, lkRes, entry_last, vvar_1, vzero_1, vvar_3, vzero_3, vknd_3, vsn_3, vvar_4, vzero_4, vknd_4, vsn_4, vsl_22, vkn_22, vvar_22, vzero_22, vvar_27, vzero_27, vbld_27, vsl_44, vkn_44, vvar_44, vzero_44, vsl_77, vkn_77, vvar_77, vzero_77, vvar_92, vzero_92, vbld_92, hR]; try simp (disch := omega) only [wrap64])
          | (with_reducible refine hK' _ ?_; clear hK' K')
          | (with_reducible refine hK _ ?_; clear hK K)
          | ((with_reducible show vCall _ (AVal.fn 74 _) _ _ _); refine vCall_pure (places74_ac (idx (pieces c).length) tr (by omega) hf _) ?_)
          | ((with_reducible show vcC _ 74 _ _ _); refine vcC_pure (places74_ac (idx (pieces c).length) tr (by omega) hf _) ?_)
          | ((with_reducible show vCall _ (AVal.fn 78 _) _ _ _); refine vCall_newE (pieceOrd78_ac c (pieces c) rfl (by omega) hyy (by omega) (fun i hi => piece_at c hi) (by rw [app_get]; rfl)) (by simp only [List.length_append, List.length_cons, List.length_nil, Nat.add_assoc, Nat.reduceAdd]; rfl) ?_)
          | ((with_reducible show vCall _ (AVal.fn 76 _) _ _ _); refine vCall_pure (AC.lent0 (by (repeat' (first | exact trivial | exact LentV.rowL rfl rfl rfl | exact LentV.rowL rfl rfl (by assumption) | refine LentV.boxL rfl ?_ | exact LentV.nil _ | exact LentV.same _ | refine LentV.aggL ?_ | refine And.intro ?_ ?_)); (first | done | fail)) (by (repeat' (first | exact NoRd.v _ | exact NoRd.sl | exact NoRd.mp | exact NoRd.tup nord_nil | refine NoRd.tup ?_ | refine NoRd.agg ?_ | exact nord_nil | refine nord_cons ?_ ?_)); (first | done | fail)) (sets76_ac (idx (pieces c).length) (idx_pw _) (AP c) (AB c) (AP_irr c) (AP_sym c) _ _ (apT_rel c) (ahT_rel c) (by omega) tr hf hall _)) ?_)
          | ((with_reducible show vcC _ 76 _ _ _); refine vcC_pure (AC.lent0 (by (repeat' (first | exact trivial | exact LentV.rowL rfl rfl rfl | exact LentV.rowL rfl rfl (by assumption) | refine LentV.boxL rfl ?_ | exact LentV.nil _ | exact LentV.same _ | refine LentV.aggL ?_ | refine And.intro ?_ ?_)); (first | done | fail)) (by (repeat' (first | exact NoRd.v _ | exact NoRd.sl | exact NoRd.mp | exact NoRd.tup nord_nil | refine NoRd.tup ?_ | refine NoRd.agg ?_ | exact nord_nil | refine nord_cons ?_ ?_)); (first | done | fail)) (sets76_ac (idx (pieces c).length) (idx_pw _) (AP c) (AB c) (AP_irr c) (AP_sym c) _ _ (apT_rel c) (ahT_rel c) (by omega) tr hf hall _)) ?_)
          | (with_reducible refine And.intro (And.intro rfl rfl) ?_)
          | (with_reducible refine And.intro (by omega) ?_)
          | (with_reducible refine And.intro (fun hg => ?_) (fun hg => ?_) <;> first | simp only [eq_false hg, decide_true, decide_false, and_true, true_and, and_false, false_and, not_true_eq_false, not_false_eq_true] | simp only [eq_true hg, decide_true, decide_false, and_true, true_and, and_false, false_and, not_true_eq_false, not_false_eq_true] | simp only [hg, decide_true, decide_false, and_true, true_and, and_false, false_and, not_true_eq_false, not_false_eq_true])
          | (with_reducible refine And.intro rfl (And.intro rfl rfl))
          | (with_reducible refine thenQ_n ?_)
          | (with_reducible refine thenQ_exit ?_)
          | (with_reducible refine thenQ_ret ?_)
          | (with_reducible refine midQ_ret ?_)
          | (with_reducible refine midQ_exit ?_)
          | (with_reducible refine blockQ_same ?_)
          | (with_reducible refine blockQ_ret ?_)
          | (with_reducible refine blockQ_n ?_)
          | (with_reducible refine AW.exit ?_)
          | (with_reducible refine AW.block ?_)
          | (with_reducible refine AW.cond_t rfl ?_)
          | (with_reducible refine AW.cond_f rfl ?_)
          | (with_reducible refine AW.cond_dec rfl (fun hc => ?_) (fun hc => ?_))
          | (with_reducible refine AW.cond rfl (fun hc => ?_) (fun hc => ?_) <;> try simp only [Bool.not_eq_eq_eq_not, Bool.not_true, Bool.not_false, decide_eq_true_eq, decide_eq_false_iff_not] at hc)
          | (with_reducible refine AW.seq ?_)
          | (with_reducible refine AW.skip ?_)
          | (with_reducible refine AW.ret ?_)
          | (with_reducible refine And.intro ?_ ?_)
          | (with_reducible intro hg; first | simp only [eq_false hg, decide_true, decide_false, and_true, true_and, and_false, false_and, not_true_eq_false, not_false_eq_true] | simp only [eq_true hg, decide_true, decide_false, and_true, true_and, and_false, false_and, not_true_eq_false, not_false_eq_true])
          | (with_reducible refine retQ_drop ?_; simp only [vRes, packRes, vLoad, vPart, lk, cond, Nat.reduceBEq, get_loc, getD_zero, getD_succ, true_and, List.length_cons, List.length_nil, Nat.reduceAdd, Nat.reduceLT, Nat.reduceLeDiff, List.take_succ_cons, List.take_zero, List.drop_succ_cons, List.drop_zero, vvar_1, vzero_1, vvar_3, vzero_3, vknd_3, vsn_3, vvar_4, vzero_4, vknd_4, vsn_4, vsl_22, vkn_22, vvar_22, vzero_22, vvar_27, vzero_27, vbld_27, vsl_44, vkn_44, vvar_44, vzero_44, vsl_77, vkn_77, vvar_77, vzero_77, vvar_92, vzero_92, vbld_92])
          )
        all_goals first
          | (exfalso; omega)
          | skip
        refine ⟨_, _, FinOk.drop hB (Pl.ids (by (repeat' (first | exact Pl.v _ | exact Pl.junk | exact Pl.rd rfl _ | exact pl_nil | refine pl_cons ?_ ?_ | refine Pl.agg ?_ | refine Pl.tup ?_ | refine Pl.rp ?_ | refine Pl.fn ?_)); (first | done | fail))), ?_, rfl⟩
        refine v_bool ?_
        rw [decide_eq_true_eq]
        exact ⟨fun h => ⟨hok, h⟩, fun h => h.2⟩
      · have hR : placesR (idx (pieces c).length) tr = .tup [.v (.slice none 0 0), .v (.bool (false))] := if_neg hall
        repeat' (first
          | (with_reducible refine AW.sreg envOk fun K hK => ?_)
          | (with_reducible refine AW.region envOk fun K hK => ?_)
          | (with_reducible refine vcL_nil ?_)
          | (with_reducible (first | refine vcL_cons fun K' hK' => ?_); simp only [isC, Bool.false_or, Bool.or_true, vAppend, elems, ↓reduceDIte, List.take_length, Nat.le_refl, List.drop_zero, vGuard, undef, Bool.not_eq_eq_eq_not, dstOk, vcOp, vcF, isPure, putS, vcCall, St.ev, St.put, lk, AVal.ofVal, initS, Nat.reduceLT, true_and, and_true, vBin, vUn, vPick, vConv, vPart, vLoad, vStore, vIdxA, vIdx, vFldA, vExt, vLen, vMin, vNil, vAlloc, vBox, vBuild, vBuildSl, vMake, vSlice, bnd, partsA, fillA, decAll, AVal.flat, AVal.cell, cellsOk, setRange, ETy.enc, ETy.dec, ETy.sz, ETy.d, cond, Nat.reduceBEq, Nat.reduceAdd, Int.toNat_natCast, List.length_set, List.length_append, List.length_replicate, List.length_take, Nat.reduceSub, Nat.reduceEqDiff, get_loc, setBox_loc, next_eq, List.length_cons, List.length_nil, List.map_cons, List.map_nil, List.append_nil, List.nil_append, List.cons_append, List.set_cons_zero, List.set_cons_succ, getD_zero, getD_succ, List.getElem?_cons_succ, List.getElem?_cons_zero, List.take_succ_cons, List.take_zero, List.drop_succ_cons, List.drop_zero, List.all_cons, List.all_nil, Bool.and_true, Bool.true_and, Option.bind_some, Option.map_some, Option.map_none, decide_eq_true_eq, decide_eq_false_iff_not, ne_eq, Bool.not_eq_true, Bool.not_eq_false, Decidable.not_not, not_true_eq_false, not_false_eq_true, forall_const, false_implies, Bool.true_eq_false, Bool.false_eq_true, reduceCtorEq, decide_true, decide_false, Bool.not_true, Bool.not_false, if_true, if_false, Nat.zero_add, Nat.lt_irrefl, Value.oneCell', gt_iff_lt, Nat.reduceLeDiff, Nat.lt_add_one, List.length_append, vSealSl, vMakeMap, vLookup, vMapUpd, vMapEnt, vEntSt, vRange, vEntry, KK.of, KK.av, lkRes, entry_last, vvar_1, vzero_1, vvar_3, vzero_3, vknd_3, vsn_3, vvar_4, vzero_4, vknd_4, vsn_4, vsl_22, vkn_22, vvar_22, vzero_22, vvar_27, vzero_27, vbld_27, vsl_44, vkn_44, vvar_44, vzero_44, vsl_77, vkn_77, vvar_77, vzero_77, vvar_92, vzero_92, vbld_92, hR]; try simp (disch := omega) only [wrap64])
          | (with_reducible refine hK' _ ?_; clear hK' K')
          | (with_reducible refine hK _ ?_; clear hK K)
          | ((with_reducible show vCall _ (AVal.fn 74 _) _ _ _); refine vCall_pure (places74_ac (idx (pieces c).length) tr (by omega) hf _) ?_)
          | ((with_reducible show vcC _ 74 _ _ _); refine vcC_pure (places74_ac (idx (pieces c).length) tr (by omega) hf _) ?_)
          | (with_reducible refine And.intro (And.intro rfl rfl) ?_)
          | (with_reducible refine And.intro (by omega) ?_)
          | (with_reducible refine And.intro (fun hg => ?_) (fun hg => ?_) <;> first | simp only [eq_false hg, decide_true, decide_false, and_true, true_and, and_false, false_and, not_true_eq_false, not_false_eq_true] | simp only [eq_true hg, decide_true, decide_false, and_true, true_and, and_false, false_and, not_true_eq_false, not_false_eq_true] | simp only [hg, decide_true, decide_false, and_true, true_and, and_false, false_and, not_true_eq_false, not_false_eq_true])
          | (with_reducible refine And.intro rfl (And.intro rfl rfl))
          | (with_reducible refine thenQ_n ?_)
          | (with_reducible refine thenQ_exit ?_)
          | (with_reducible refine thenQ_ret ?_)
          | (with_reducible refine midQ_ret ?_)
          | (with_reducible refine midQ_exit ?_)
          | (with_reducible refine blockQ_same ?_)
          | (with_reducible refine blockQ_ret ?_)
          | (with_reducible refine blockQ_n ?_)
          | (with_reducible refine AW.exit ?_)
          | (with_reducible refine AW.block ?_)
          | (with_reducible refine AW.cond_t rfl ?_)
          | (with_reducible refine AW.cond_f rfl ?_)
          | (with_reducible refine AW.cond_dec rfl (fun hc => ?_) (fun hc => ?_))
          | (with_reducible refine AW.cond rfl (fun hc => ?_) (fun hc => ?_) <;> try simp only [Bool.not_eq_eq_eq_not, Bool.not_true, Bool.not_false, decide_eq_true_eq, decide_eq_false_iff_not] at hc)
          | (with_reducible refine AW.seq ?_)
          | (with_reducible refine AW.skip ?_)
          | (with_reducible refine AW.ret ?_)
          | (with_reducible refine And.intro ?_ ?_)
          | (with_reducible intro hg; first | simp only [eq_false hg, decide_true, decide_false, and_true, true_and, and_false, false_and, not_true_eq_false, not_false_eq_true] | simp only [eq_true hg, decide_true, decide_false, and_true, true_and, and_false, false_and, not_true_eq_false, not_false_eq_true])
          | (with_reducible refine retQ_drop ?_; simp only [vRes, packRes, vLoad, vPart, lk, cond, Nat.reduceBEq, get_loc, getD_zero, getD_succ, true_and, List.length_cons, List.length_nil, Nat.reduceAdd, Nat.reduceLT, Nat.reduceLeDiff, List.take_succ_cons, List.take_zero, List.drop_succ_cons, List.drop_zero, vvar_1, vzero_1, vvar_3, vzero_3, vknd_3, vsn_3, vvar_4, vzero_4, vknd_4, vsn_4, vsl_22, vkn_22, vvar_22, vzero_22, vvar_27, vzero_27, vbld_27, vsl_44, vkn_44, vvar_44, vzero_44, vsl_77, vkn_77, vvar_77, vzero_77, vvar_92, vzero_92, vbld_92])
          )
        all_goals first
          | (exfalso; omega)
          | skip
        refine ⟨_, _, FinOk.drop hB (Pl.ids (by (repeat' (first | exact Pl.v _ | exact Pl.junk | exact Pl.rd rfl _ | exact pl_nil | refine pl_cons ?_ ?_ | refine Pl.agg ?_ | refine Pl.tup ?_ | refine Pl.rp ?_ | refine Pl.fn ?_)); (first | done | fail))), ?_, rfl⟩
        exact v_bool ⟨fun h => absurd h (by decide), fun h => absurd (good_all h.2) hall⟩
  · have hd : decide (ChOk c) = false := decide_eq_false hok
    refine AC.enter envOk Try.func47 rfl (by decide) Try.ntmps47 Try.results47 (by simp) fun hB => ?_
    repeat' (first
      | (with_reducible refine AW.sreg envOk fun K hK => ?_)
      | (with_reducible refine AW.region envOk fun K hK => ?_)
      | (with_reducible refine vcL_nil ?_)
      | (with_reducible (first | refine vcL_cons fun K' hK' => ?_); simp only [isC, Bool.false_or, Bool.or_true, vAppend, elems, ↓reduceDIte, List.take_length, Nat.le_refl, List.drop_zero, vGuard, undef, Bool.not_eq_eq_eq_not, dstOk, vcOp, vcF, isPure, putS, vcCall, St.ev, St.put, lk, AVal.ofVal, initS, Nat.reduceLT, true_and, and_true, vBin, vUn, vPick, vConv, vPart, vLoad, vStore, vIdxA, vIdx, vFldA, vExt, vLen, vMin, vNil, vAlloc, vBox, vBuild, vBuildSl, vMake, vSlice, bnd, partsA, fillA, decAll, AVal.flat, AVal.cell, cellsOk, setRange, ETy.enc, ETy.dec, ETy.sz, ETy.d, cond, Nat.reduceBEq, Nat.reduceAdd, Int.toNat_natCast, List.length_set, List.length_append, List.length_replicate, List.length_take, Nat.reduceSub, Nat.reduceEqDiff, get_loc, setBox_loc, next_eq, List.length_cons, List.length_nil, List.map_cons, List.map_nil, List.append_nil, List.nil_append, List.cons_append, List.set_cons_zero, List.set_cons_succ, getD_zero, getD_succ, List.getElem?_cons_succ, List.getElem?_cons_zero, List.take_succ_cons, List.take_zero, List.drop_succ_cons, List.drop_zero, List.all_cons, List.all_nil, Bool.and_true, Bool.true_and, Option.bind_some, Option.map_some, Option.map_none, decide_eq_true_eq, decide_eq_false_iff_not, ne_eq, Bool.not_eq_true, Bool.not_eq_false, Decidable.not_not, not_true_eq_false, not_false_eq_true, forall_const, false_implies, Bool.true_eq_false, Bool.false_eq_true, reduceCtorEq, decide_true, decide_false, Bool.not_true, Bool.not_false, if_true, if_false, Nat.zero_add, Nat.lt_irrefl, Value.oneCell', gt_iff_lt, Nat.reduceLeDiff, Nat.lt_add_one, List.length_append, vSealSl, vMakeMap, vLookup, vMapUpd, vMapEnt, vEntSt, vRange, vEntry, KK.of, KK.av, lkRes, entry_last, vvar_1, vzero_1, vvar_3, vzero_3, vknd_3, vsn_3, vvar_4, vzero_4, vknd_4, vsn_4, vsl_22, vkn_22, vvar_22, vzero_22, vvar_27, vzero_27, vbld_27, vsl_44, vkn_44, vvar_44, vzero_44, vsl_77, vkn_77, vvar_77, vzero_77, vvar_92, vzero_92, vbld_92, hd]; try simp (disch := omega) only [wrap64])
      | (with_reducible refine hK' _ ?_; clear hK' K')
      | (with_reducible refine hK _ ?_; clear hK K)
      | ((with_reducible show vCall _ (AVal.fn 17 _) _ _ _); refine vCall_pure (is17_ac c (by omega) (by omega) _) ?_)
      | ((with_reducible show vcC _ 17 _ _ _); refine vcC_pure (is17_ac c (by omega) (by omega) _) ?_)
      | (with_reducible refine And.intro (And.intro rfl rfl) ?_)
      | (with_reducible refine And.intro (by omega) ?_)
      | (with_reducible refine And.intro (fun hg => ?_) (fun hg => ?_) <;> first | simp only [eq_false hg, decide_true, decide_false, and_true, true_and, and_false, false_and, not_true_eq_false, not_false_eq_true] | simp only [eq_true hg, decide_true, decide_false, and_true, true_and, and_false, false_and, not_true_eq_false, not_false_eq_true] | simp only [hg, decide_true, decide_false, and_true, true_and, and_false, false_and, not_true_eq_false, not_false_eq_true])
      | (with_reducible refine And.intro rfl (And.intro rfl rfl))
      | (with_reducible refine thenQ_n ?_)
      | (with_reducible refine thenQ_exit ?_)
      | (with_reducible refine thenQ_ret ?_)
      | (with_reducible refine midQ_ret ?_)
      | (with_reducible refine midQ_exit ?_)
      | (with_reducible refine blockQ_same ?_)
      | (with_reducible refine blockQ_ret ?_)
      | (with_reducible refine blockQ_n ?_)
      | (with_reducible refine AW.exit ?_)
      | (with_reducible refine AW.block ?_)
      | (with_reducible refine AW.cond_t rfl ?_)
      | (with_reducible refine AW.cond_f rfl ?_)
      | (with_reducible refine AW.cond_dec rfl (fun hc => ?_) (fun hc => ?_))
      | (with_reducible refine AW.cond rfl (fun hc => ?_) (fun hc => ?_) <;> try simp only [Bool.not_eq_eq_eq_not, Bool.not_true, Bool.not_false, decide_eq_true_eq, decide_eq_false_iff_not] at hc)
      | (with_reducible refine AW.seq ?_)
      | (with_reducible refine AW.skip ?_)
      | (with_reducible refine AW.ret ?_)
      | (with_reducible refine And.intro ?_ ?_)
      | (with_reducible intro hg; first | simp only [eq_false hg, decide_true, decide_false, and_true, true_and, and_false, false_and, not_true_eq_false, not_false_eq_true] | simp only [eq_true hg, decide_true, decide_false, and_true, true_and, and_false, false_and, not_true_eq_false, not_false_eq_true])
      | (with_reducible refine retQ_drop ?_; simp only [vRes, packRes, vLoad, vPart, lk, cond, Nat.reduceBEq, get_loc, getD_zero, getD_succ, true_and, List.length_cons, List.length_nil, Nat.reduceAdd, Nat.reduceLT, Nat.reduceLeDiff, List.take_succ_cons, List.take_zero, List.drop_succ_cons, List.drop_zero, vvar_1, vzero_1, vvar_3, vzero_3, vknd_3, vsn_3, vvar_4, vzero_4, vknd_4, vsn_4, vsl_22, vkn_22, vvar_22, vzero_22, vvar_27, vzero_27, vbld_27, vsl_44, vkn_44, vvar_44, vzero_44, vsl_77, vkn_77, vvar_77, vzero_77, vvar_92, vzero_92, vbld_92])
      )
    refine ⟨_, _, FinOk.drop hB (Pl.ids (by (repeat' (first | exact Pl.v _ | exact Pl.junk | exact Pl.rd rfl _ | exact pl_nil | refine pl_cons ?_ ?_ | refine Pl.agg ?_ | refine Pl.tup ?_ | refine Pl.rp ?_ | refine Pl.fn ?_)); (first | done | fail))), ?_, rfl⟩
    exact v_bool ⟨fun h => absurd h (by decide), fun h => absurd h.1 hok⟩
theorem law13_ac (c : Ch) (tr : Mz) (hx : c.1.length ≤ 9223372036854775807) (hy : c.2.length ≤ 9223372036854775807) (hm : Fits 9223372036854775807 tr) (H : List ABox) : AC Try.prog 13 [.agg [.rd (.int .i64) (c).1, .rd (.int .i64) (c).2], .rd (.sli .i64) (tr)] H (fun r H' => r = .v (.bool true)) := by
  refine AC.enter envOk Try.func13 rfl (by decide) Try.ntmps13 Try.results13 (by simp) fun hB => ?_
  repeat' (first
    | (with_reducible refine AW.sreg envOk fun K hK => ?_)
    | (with_reducible refine AW.region envOk fun K hK => ?_)
    | (with_reducible refine AW.d0reg envOk mixed ?_ ?_ fun K hK => ?_; (first | rfl | exact base_len | exact base_len0); kernel_rfl)
    | (with_reducible refine AW.d0 envOk mixed ?_ ?_ fun K hK => ?_; (first | rfl | exact base_len | exact base_len0); kernel_rfl)
    | (with_reducible refine vcD_nil ?_)
    | (with_reducible refine vcL_nil ?_)
    | (with_reducible (first | refine vcD_cons fun K' hK' => ?_ | refine vcL_cons fun K' hK' => ?_); simp only [isC, Bool.false_or, Bool.or_true, vAppend, elems, ↓reduceDIte, List.take_length, Nat.le_refl, List.drop_zero, vGuard, undef, Bool.not_eq_eq_eq_not, dstOk, vcOp, vcF, isPure, putS, vcCall, St.ev, St.put, lk, AVal.ofVal, initS, Nat.reduceLT, true_and, and_true, vBin, vUn, vPick, vConv, vPart, vLoad, vStore, vIdxA, vIdx, vFldA, vExt, vLen, vMin, vNil, vAlloc, vBox, vBuild, vBuildSl, vMake, vSlice, bnd, partsA, fillA, decAll, AVal.flat, AVal.cell, cellsOk, setRange, ETy.enc, ETy.dec, ETy.sz, ETy.d, cond, Nat.reduceBEq, Nat.reduceAdd, Int.toNat_natCast, List.length_set, List.length_append, List.length_replicate, List.length_take, Nat.reduceSub, Nat.reduceEqDiff, get_loc, setBox_loc, next_eq, List.length_cons, List.length_nil, List.map_cons, List.map_nil, List.append_nil, List.nil_append, List.cons_append, List.set_cons_zero, List.set_cons_succ, getD_zero, getD_succ, List.getElem?_cons_succ, List.getElem?_cons_zero, List.take_succ_cons, List.take_zero, List.drop_succ_cons, List.drop_zero, List.all_cons, List.all_nil, Bool.and_true, Bool.true_and, Option.bind_some, Option.map_some, Option.map_none, decide_eq_true_eq, decide_eq_false_iff_not, ne_eq, Bool.not_eq_true, Bool.not_eq_false, Decidable.not_not, not_true_eq_false, not_false_eq_true, forall_const, false_implies, Bool.true_eq_false, Bool.false_eq_true, reduceCtorEq, decide_true, decide_false, Bool.not_true, Bool.not_false, if_true, if_false, Nat.zero_add, Nat.lt_irrefl, Value.oneCell', gt_iff_lt, Nat.reduceLeDiff, Nat.lt_add_one, List.length_append, vSealSl, vMakeMap, vLookup, vMapUpd, vMapEnt, vEntSt, vRange, vEntry, KK.of, KK.av, lkRes, entry_last, vvar_3, vzero_3, vknd_3, vsn_3, vvar_4, vzero_4, vknd_4, vsn_4, vvar_24, vzero_24, vbld_24, vvar_27, vzero_27, vbld_27, vsl_44, vkn_44, vvar_44, vzero_44]; try simp (disch := omega) only [wrap64])
    | (with_reducible refine hK' _ ?_; clear hK' K')
    | (with_reducible refine hK _ ?_; clear hK K)
    | ((with_reducible show vCall _ (AVal.fn 14 _) _ _ _); refine vCall_pure (sz14_ac c _ hx hy (by omega) _) ?_)
    | ((with_reducible show vcC _ 14 _ _ _); refine vcC_pure (sz14_ac c _ hx hy (by omega) _) ?_)
    | ((with_reducible show vCall _ (AVal.fn 42 _) _ _ _); refine vCall_ex (szSS_ac tr _ hm (by omega) _) (fun x hx => ?_))
    | (with_reducible refine And.intro (And.intro rfl rfl) ?_)
    | (with_reducible refine And.intro (by omega) ?_)
    | (with_reducible refine And.intro (fun hg => ?_) (fun hg => ?_) <;> first | simp only [eq_false hg, decide_true, decide_false, and_true, true_and, and_false, false_and, not_true_eq_false, not_false_eq_true] | simp only [eq_true hg, decide_true, decide_false, and_true, true_and, and_false, false_and, not_true_eq_false, not_false_eq_true] | simp only [hg, decide_true, decide_false, and_true, true_and, and_false, false_and, not_true_eq_false, not_false_eq_true])
    | (with_reducible refine And.intro rfl (And.intro rfl rfl))
    | (with_reducible refine thenQ_n ?_)
    | (with_reducible refine thenQ_exit ?_)
    | (with_reducible refine thenQ_ret ?_)
    | (with_reducible refine midQ_ret ?_)
    | (with_reducible refine midQ_exit ?_)
    | (with_reducible refine blockQ_same ?_)
    | (with_reducible refine blockQ_ret ?_)
    | (with_reducible refine blockQ_n ?_)
    | (with_reducible refine AW.exit ?_)
    | (with_reducible refine AW.block ?_)
    | (with_reducible refine AW.cond_t rfl ?_)
    | (with_reducible refine AW.cond_f rfl ?_)
    | (with_reducible refine AW.cond_dec rfl (fun hc => ?_) (fun hc => ?_))
    | (with_reducible refine AW.cond rfl (fun hc => ?_) (fun hc => ?_) <;> try simp only [Bool.not_eq_eq_eq_not, Bool.not_true, Bool.not_false, decide_eq_true_eq, decide_eq_false_iff_not] at hc)
    | (with_reducible refine AW.seq ?_)
    | (with_reducible refine AW.skip ?_)
    | (with_reducible refine AW.ret ?_)
    | (with_reducible refine And.intro ?_ ?_)
    | (with_reducible intro hg; first | simp only [eq_false hg, decide_true, decide_false, and_true, true_and, and_false, false_and, not_true_eq_false, not_false_eq_true] | simp only [eq_true hg, decide_true, decide_false, and_true, true_and, and_false, false_and, not_true_eq_false, not_false_eq_true])
    | (with_reducible refine retQ_drop ?_; simp only [vRes, packRes, vLoad, vPart, lk, cond, Nat.reduceBEq, get_loc, getD_zero, getD_succ, true_and, List.length_cons, List.length_nil, Nat.reduceAdd, Nat.reduceLT, Nat.reduceLeDiff, List.take_succ_cons, List.take_zero, List.drop_succ_cons, List.drop_zero, vvar_3, vzero_3, vknd_3, vsn_3, vvar_4, vzero_4, vknd_4, vsn_4, vvar_24, vzero_24, vbld_24, vvar_27, vzero_27, vbld_27, vsl_44, vkn_44, vvar_44, vzero_44])
    )
  · exact ⟨_, _, FinOk.drop hB (.v _), rfl⟩
  · exact ⟨_, _, FinOk.drop hB (.v _), rfl⟩
  have hs : (c.1.length : Int) + c.2.length ≤ 1048576 := by omega
  have hf : Fits 1048576 tr := by
    rcases hx with h | h
    · exact h.2.2
    · exact absurd h (by omega)
  repeat' (first
    | (with_reducible refine AW.sreg envOk fun K hK => ?_)
    | (with_reducible refine AW.region envOk fun K hK => ?_)
    | (with_reducible refine AW.d0reg envOk mixed ?_ ?_ fun K hK => ?_; (first | rfl | exact base_len | exact base_len0); kernel_rfl)
    | (with_reducible refine AW.d0 envOk mixed ?_ ?_ fun K hK => ?_; (first | rfl | exact base_len | exact base_len0); kernel_rfl)
    | (with_reducible refine vcD_nil ?_)
    | (with_reducible refine vcL_nil ?_)
    | (with_reducible (first | refine vcD_cons fun K' hK' => ?_ | refine vcL_cons fun K' hK' => ?_); simp only [isC, Bool.false_or, Bool.or_true, vAppend, elems, ↓reduceDIte, List.take_length, Nat.le_refl, List.drop_zero, vGuard, undef, Bool.not_eq_eq_eq_not, dstOk, vcOp, vcF, isPure, putS, vcCall, St.ev, St.put, lk, AVal.ofVal, initS, Nat.reduceLT, true_and, and_true, vBin, vUn, vPick, vConv, vPart, vLoad, vStore, vIdxA, vIdx, vFldA, vExt, vLen, vMin, vNil, vAlloc, vBox, vBuild, vBuildSl, vMake, vSlice, bnd, partsA, fillA, decAll, AVal.flat, AVal.cell, cellsOk, setRange, ETy.enc, ETy.dec, ETy.sz, ETy.d, cond, Nat.reduceBEq, Nat.reduceAdd, Int.toNat_natCast, List.length_set, List.length_append, List.length_replicate, List.length_take, Nat.reduceSub, Nat.reduceEqDiff, get_loc, setBox_loc, next_eq, List.length_cons, List.length_nil, List.map_cons, List.map_nil, List.append_nil, List.nil_append, List.cons_append, List.set_cons_zero, List.set_cons_succ, getD_zero, getD_succ, List.getElem?_cons_succ, List.getElem?_cons_zero, List.take_succ_cons, List.take_zero, List.drop_succ_cons, List.drop_zero, List.all_cons, List.all_nil, Bool.and_true, Bool.true_and, Option.bind_some, Option.map_some, Option.map_none, decide_eq_true_eq, decide_eq_false_iff_not, ne_eq, Bool.not_eq_true, Bool.not_eq_false, Decidable.not_not, not_true_eq_false, not_false_eq_true, forall_const, false_implies, Bool.true_eq_false, Bool.false_eq_true, reduceCtorEq, decide_true, decide_false, Bool.not_true, Bool.not_false, if_true, if_false, Nat.zero_add, Nat.lt_irrefl, Value.oneCell', gt_iff_lt, Nat.reduceLeDiff, Nat.lt_add_one, List.length_append, vSealSl, vMakeMap, vLookup, vMapUpd, vMapEnt, vEntSt, vRange, vEntry, KK.of, KK.av, lkRes, entry_last, vvar_3, vzero_3, vknd_3, vsn_3, vvar_4, vzero_4, vknd_4, vsn_4, vvar_24, vzero_24, vbld_24, vvar_27, vzero_27, vbld_27, vsl_44, vkn_44, vvar_44, vzero_44]; try simp (disch := omega) only [wrap64])
    | (with_reducible refine hK' _ ?_; clear hK' K')
    | (with_reducible refine hK _ ?_; clear hK K)
    | ((with_reducible show vCall _ (AVal.fn 16 _) _ _ _); refine vCall_pure (toCh_ac c (by omega) (by omega) _) ?_)
    | ((with_reducible show vcC _ 16 _ _ _); refine vcC_pure (toCh_ac c (by omega) (by omega) _) ?_)
    | ((with_reducible show vCall _ (AVal.fn 44 _) _ _ _); refine vCall_pure (toSS_ac tr hf _) ?_)
    | ((with_reducible show vcC _ 44 _ _ _); refine vcC_pure (toSS_ac tr hf _) ?_)
    | ((with_reducible show vCall _ (AVal.fn 46 _) _ _ _); refine vCall_pure (spec46_ac c (by omega) (by omega) tr hf _) ?_)
    | ((with_reducible show vcC _ 46 _ _ _); refine vcC_pure (spec46_ac c (by omega) (by omega) tr hf _) ?_)
    | ((with_reducible show vCall _ (AVal.fn 47 _) _ _ _); refine vCall_pure (impl47_ac c (by omega) (by omega) tr hf _) ?_)
    | ((with_reducible show vcC _ 47 _ _ _); refine vcC_pure (impl47_ac c (by omega) (by omega) tr hf _) ?_)
    | ((with_reducible show vCall _ (AVal.fn 18 _) _ _ _); refine vCall_pure (eqCh_ac c c (by omega) (by omega) (by omega) (by omega) _) ?_)
    | ((with_reducible show vcC _ 18 _ _ _); refine vcC_pure (eqCh_ac c c (by omega) (by omega) (by omega) (by omega) _) ?_)
    | ((with_reducible show vCall _ (AVal.fn 35 _) _ _ _); refine vCall_pure (eqSS_ac tr tr hf hf _) ?_)
    | ((with_reducible show vcC _ 35 _ _ _); refine vcC_pure (eqSS_ac tr tr hf hf _) ?_)
    | (with_reducible refine And.intro (And.intro rfl rfl) ?_)
    | (with_reducible refine And.intro (by omega) ?_)
    | (with_reducible refine And.intro (fun hg => ?_) (fun hg => ?_) <;> first | simp only [eq_false hg, decide_true, decide_false, and_true, true_and, and_false, false_and, not_true_eq_false, not_false_eq_true] | simp only [eq_true hg, decide_true, decide_false, and_true, true_and, and_false, false_and, not_true_eq_false, not_false_eq_true] | simp only [hg, decide_true, decide_false, and_true, true_and, and_false, false_and, not_true_eq_false, not_false_eq_true])
    | (with_reducible refine And.intro rfl (And.intro rfl rfl))
    | (with_reducible refine thenQ_n ?_)
    | (with_reducible refine thenQ_exit ?_)
    | (with_reducible refine thenQ_ret ?_)
    | (with_reducible refine midQ_ret ?_)
    | (with_reducible refine midQ_exit ?_)
    | (with_reducible refine blockQ_same ?_)
    | (with_reducible refine blockQ_ret ?_)
    | (with_reducible refine blockQ_n ?_)
    | (with_reducible refine AW.exit ?_)
    | (with_reducible refine AW.block ?_)
    | (with_reducible refine AW.cond_t rfl ?_)
    | (with_reducible refine AW.cond_f rfl ?_)
    | (with_reducible refine AW.cond_dec rfl (fun hc => ?_) (fun hc => ?_))
    | (with_reducible refine AW.cond rfl (fun hc => ?_) (fun hc => ?_) <;> try simp only [Bool.not_eq_eq_eq_not, Bool.not_true, Bool.not_false, decide_eq_true_eq, decide_eq_false_iff_not] at hc)
    | (with_reducible refine AW.seq ?_)
    | (with_reducible refine AW.skip ?_)
    | (with_reducible refine AW.ret ?_)
    | (with_reducible refine And.intro ?_ ?_)
    | (with_reducible intro hg; first | simp only [eq_false hg, decide_true, decide_false, and_true, true_and, and_false, false_and, not_true_eq_false, not_false_eq_true] | simp only [eq_true hg, decide_true, decide_false, and_true, true_and, and_false, false_and, not_true_eq_false, not_false_eq_true])
    | (with_reducible refine retQ_drop ?_; simp only [vRes, packRes, vLoad, vPart, lk, cond, Nat.reduceBEq, get_loc, getD_zero, getD_succ, true_and, List.length_cons, List.length_nil, Nat.reduceAdd, Nat.reduceLT, Nat.reduceLeDiff, List.take_succ_cons, List.take_zero, List.drop_succ_cons, List.drop_zero, vvar_3, vzero_3, vknd_3, vsn_3, vvar_4, vzero_4, vknd_4, vsn_4, vvar_24, vzero_24, vbld_24, vvar_27, vzero_27, vbld_27, vsl_44, vkn_44, vvar_44, vzero_44])
    )
  all_goals exact ⟨_, _, FinOk.drop hB (.v _), rfl⟩
end Go.Proofs.Ytdphlhplcmjepaa
end
section
namespace Go.Proofs.Ytdphlhplcmjepaa
open Go.Eng
def sumW : List Char := [Char.ofNat 54, Char.ofNat 51, Char.ofNat 55, Char.ofNat 99, Char.ofNat 53, Char.ofNat 55, Char.ofNat 49, Char.ofNat 98, Char.ofNat 98, Char.ofNat 57, Char.ofNat 56, Char.ofNat 50, Char.ofNat 102, Char.ofNat 99, Char.ofNat 48, Char.ofNat 53, Char.ofNat 49, Char.ofNat 54, Char.ofNat 50, Char.ofNat 98, Char.ofNat 53, Char.ofNat 97, Char.ofNat 53, Char.ofNat 48, Char.ofNat 101, Char.ofNat 101, Char.ofNat 97, Char.ofNat 49, Char.ofNat 101, Char.ofNat 55, Char.ofNat 51, Char.ofNat 53, Char.ofNat 56, Char.ofNat 50, Char.ofNat 53, Char.ofNat 57, Char.ofNat 48, Char.ofNat 56, Char.ofNat 50, Char.ofNat 50, Char.ofNat 49, Char.ofNat 100, Char.ofNat 55, Char.ofNat 97, Char.ofNat 54, Char.ofNat 48, Char.ofNat 101, Char.ofNat 99, Char.ofNat 54, Char.ofNat 97, Char.ofNat 48, Char.ofNat 48, Char.ofNat 49, Char.ofNat 50, Char.ofNat 53, Char.ofNat 50, Char.ofNat 102, Char.ofNat 102, Char.ofNat 50, Char.ofNat 102, Char.ofNat 55, Char.ofNat 56, Char.ofNat 56, Char.ofNat 48]
def tailW : List Char := [Char.ofNat 97, Char.ofNat 116, Char.ofNat 32, Char.ofNat 108, Char.ofNat 111, Char.ofNat 111, Char.ofNat 112, Char.ofNat 46, Char.ofNat 101, Char.ofNat 120, Char.ofNat 97, Char.ofNat 109, Char.ofNat 112, Char.ofNat 108, Char.ofNat 101, Char.ofNat 47, Char.ofNat 103, Char.ofNat 48, Char.ofNat 49, Char.ofNat 49, Char.ofNat 52, Char.ofNat 57, Char.ofNat 47, Char.ofNat 108, Char.ofNat 97, Char.ofNat 119, Char.ofNat 115, Char.ofNat 46, Char.ofNat 70, Char.ofNat 110, Char.ofNat 69, Char.ofNat 120, Char.ofNat 97, Char.ofNat 99, Char.ofNat 116, Char.ofNat 86, Char.ofNat 97, Char.ofNat 108, Char.ofNat 105, Char.ofNat 100, Char.ofNat 67, Char.ofNat 104, Char.ofNat 97, Char.ofNat 110, Char.ofNat 110, Char.ofNat 101, Char.ofNat 108, Char.ofNat 32, Char.ofNat 108, Char.ofNat 111, Char.ofNat 111, Char.ofNat 112, Char.ofNat 46, Char.ofNat 101, Char.ofNat 120, Char.ofNat 97, Char.ofNat 109, Char.ofNat 112, Char.ofNat 108, Char.ofNat 101, Char.ofNat 47, Char.ofNat 103, Char.ofNat 48, Char.ofNat 49, Char.ofNat 49, Char.ofNat 52, Char.ofNat 57, Char.ofNat 47, Char.ofNat 108, Char.ofNat 97, Char.ofNat 119, Char.ofNat 115, Char.ofNat 46, Char.ofNat 70, Char.ofNat 110, Char.ofNat 69, Char.ofNat 120, Char.ofNat 97, Char.ofNat 99, Char.ofNat 116, Char.ofNat 83, Char.ofNat 112, Char.ofNat 97, Char.ofNat 110, Char.ofNat 79, Char.ofNat 102, Char.ofNat 32, Char.ofNat 108, Char.ofNat 111, Char.ofNat 111, Char.ofNat 112, Char.ofNat 46, Char.ofNat 101, Char.ofNat 120, Char.ofNat 97, Char.ofNat 109, Char.ofNat 112, Char.ofNat 108, Char.ofNat 101, Char.ofNat 47, Char.ofNat 103, Char.ofNat 48, Char.ofNat 49, Char.ofNat 49, Char.ofNat 52, Char.ofNat 57, Char.ofNat 47, Char.ofNat 108, Char.ofNat 97, Char.ofNat 119, Char.ofNat 115, Char.ofNat 46, Char.ofNat 70, Char.ofNat 110, Char.ofNat 69, Char.ofNat 120, Char.ofNat 97, Char.ofNat 99, Char.ofNat 116, Char.ofNat 78, Char.ofNat 101, Char.ofNat 116, Char.ofNat 115, Char.ofNat 79, Char.ofNat 102, Char.ofNat 32, Char.ofNat 108, Char.ofNat 111, Char.ofNat 111, Char.ofNat 112, Char.ofNat 46, Char.ofNat 101, Char.ofNat 120, Char.ofNat 97, Char.ofNat 109, Char.ofNat 112, Char.ofNat 108, Char.ofNat 101, Char.ofNat 47, Char.ofNat 103, Char.ofNat 48, Char.ofNat 49, Char.ofNat 49, Char.ofNat 52, Char.ofNat 57, Char.ofNat 47, Char.ofNat 108, Char.ofNat 97, Char.ofNat 119, Char.ofNat 115, Char.ofNat 46, Char.ofNat 70, Char.ofNat 110, Char.ofNat 69, Char.ofNat 120, Char.ofNat 97, Char.ofNat 99, Char.ofNat 116, Char.ofNat 68, Char.ofNat 101, Char.ofNat 110, Char.ofNat 115, Char.ofNat 105, Char.ofNat 116, Char.ofNat 121, Char.ofNat 65, Char.ofNat 116, Char.ofNat 32, Char.ofNat 108, Char.ofNat 111, Char.ofNat 111, Char.ofNat 112, Char.ofNat 46, Char.ofNat 101, Char.ofNat 120, Char.ofNat 97, Char.ofNat 109, Char.ofNat 112, Char.ofNat 108, Char.ofNat 101, Char.ofNat 47, Char.ofNat 103, Char.ofNat 48, Char.ofNat 49, Char.ofNat 49, Char.ofNat 52, Char.ofNat 57, Char.ofNat 47, Char.ofNat 108, Char.ofNat 97, Char.ofNat 119, Char.ofNat 115, Char.ofNat 46, Char.ofNat 70, Char.ofNat 110, Char.ofNat 69, Char.ofNat 120, Char.ofNat 97, Char.ofNat 99, Char.ofNat 116, Char.ofNat 68, Char.ofNat 101, Char.ofNat 110, Char.ofNat 115, Char.ofNat 105, Char.ofNat 116, Char.ofNat 121, Char.ofNat 79, Char.ofNat 102, Char.ofNat 32, Char.ofNat 108, Char.ofNat 111, Char.ofNat 111, Char.ofNat 112, Char.ofNat 46, Char.ofNat 101, Char.ofNat 120, Char.ofNat 97, Char.ofNat 109, Char.ofNat 112, Char.ofNat 108, Char.ofNat 101, Char.ofNat 47, Char.ofNat 103, Char.ofNat 48, Char.ofNat 49, Char.ofNat 49, Char.ofNat 52, Char.ofNat 57, Char.ofNat 47, Char.ofNat 108, Char.ofNat 97, Char.ofNat 119, Char.ofNat 115, Char.ofNat 46, Char.ofNat 70, Char.ofNat 110, Char.ofNat 69, Char.ofNat 120, Char.ofNat 97, Char.ofNat 99, Char.ofNat 116, Char.ofNat 77, Char.ofNat 117, Char.ofNat 115, Char.ofNat 116, Char.ofNat 66, Char.ofNat 101, Char.ofNat 65, Char.ofNat 98, Char.ofNat 111, Char.ofNat 118, Char.ofNat 101, Char.ofNat 32, Char.ofNat 108, Char.ofNat 111, Char.ofNat 111, Char.ofNat 112, Char.ofNat 46, Char.ofNat 101, Char.ofNat 120, Char.ofNat 97, Char.ofNat 109, Char.ofNat 112, Char.ofNat 108, Char.ofNat 101, Char.ofNat 47, Char.ofNat 103, Char.ofNat 48, Char.ofNat 49, Char.ofNat 49, Char.ofNat 52, Char.ofNat 57, Char.ofNat 47, Char.ofNat 108, Char.ofNat 97, Char.ofNat 119, Char.ofNat 115, Char.ofNat 46, Char.ofNat 70, Char.ofNat 110, Char.ofNat 69, Char.ofNat 120, Char.ofNat 97, Char.ofNat 99, Char.ofNat 116, Char.ofNat 80, Char.ofNat 105, Char.ofNat 101, Char.ofNat 99, Char.ofNat 101, Char.ofNat 115, Char.ofNat 79, Char.ofNat 102, Char.ofNat 32, Char.ofNat 108, Char.ofNat 111, Char.ofNat 111, Char.ofNat 112, Char.ofNat 46, Char.ofNat 101, Char.ofNat 120, Char.ofNat 97, Char.ofNat 109, Char.ofNat 112, Char.ofNat 108, Char.ofNat 101, Char.ofNat 47, Char.ofNat 103, Char.ofNat 48, Char.ofNat 49, Char.ofNat 49, Char.ofNat 52, Char.ofNat 57, Char.ofNat 47, Char.ofNat 108, Char.ofNat 97, Char.ofNat 119, Char.ofNat 115, Char.ofNat 46, Char.ofNat 70, Char.ofNat 110, Char.ofNat 69, Char.ofNat 120, Char.ofNat 97, Char.ofNat 99, Char.ofNat 116, Char.ofNat 67, Char.ofNat 121, Char.ofNat 99, Char.ofNat 108, Char.ofNat 101, Char.ofNat 79, Char.ofNat 102, Char.ofNat 32, Char.ofNat 108, Char.ofNat 111, Char.ofNat 111, Char.ofNat 112, Char.ofNat 46, Char.ofNat 101, Char.ofNat 120, Char.ofNat 97, Char.ofNat 109, Char.ofNat 112, Char.ofNat 108, Char.ofNat 101, Char.ofNat 47, Char.ofNat 103, Char.ofNat 48, Char.ofNat 49, Char.ofNat 49, Char.ofNat 52, Char.ofNat 57, Char.ofNat 47, Char.ofNat 108, Char.ofNat 97, Char.ofNat 119, Char.ofNat 115, Char.ofNat 46, Char.ofNat 70, Char.ofNat 110, Char.ofNat 69, Char.ofNat 120, Char.ofNat 97, Char.ofNat 99, Char.ofNat 116, Char.ofNat 76, Char.ofNat 111, Char.ofNat 110, Char.ofNat 103, Char.ofNat 101, Char.ofNat 115, Char.ofNat 116, Char.ofNat 67, Char.ofNat 104, Char.ofNat 97, Char.ofNat 105, Char.ofNat 110, Char.ofNat 32, Char.ofNat 108, Char.ofNat 111, Char.ofNat 111, Char.ofNat 112, Char.ofNat 46, Char.ofNat 101, Char.ofNat 120, Char.ofNat 97, Char.ofNat 109, Char.ofNat 112, Char.ofNat 108, Char.ofNat 101, Char.ofNat 47, Char.ofNat 103, Char.ofNat 48, Char.ofNat 49, Char.ofNat 49, Char.ofNat 52, Char.ofNat 57, Char.ofNat 47, Char.ofNat 108, Char.ofNat 97, Char.ofNat 119, Char.ofNat 115, Char.ofNat 46, Char.ofNat 70, Char.ofNat 110, Char.ofNat 69, Char.ofNat 120, Char.ofNat 97, Char.ofNat 99, Char.ofNat 116, Char.ofNat 73, Char.ofNat 115, Char.ofNat 82, Char.ofNat 111, Char.ofNat 117, Char.ofNat 116, Char.ofNat 105, Char.ofNat 110, Char.ofNat 103, Char.ofNat 32, Char.ofNat 108, Char.ofNat 111, Char.ofNat 111, Char.ofNat 112, Char.ofNat 46, Char.ofNat 101, Char.ofNat 120, Char.ofNat 97, Char.ofNat 109, Char.ofNat 112, Char.ofNat 108, Char.ofNat 101, Char.ofNat 47, Char.ofNat 103, Char.ofNat 48, Char.ofNat 49, Char.ofNat 49, Char.ofNat 52, Char.ofNat 57, Char.ofNat 47, Char.ofNat 108, Char.ofNat 97, Char.ofNat 119, Char.ofNat 115, Char.ofNat 46, Char.ofNat 70, Char.ofNat 110, Char.ofNat 69, Char.ofNat 120, Char.ofNat 97, Char.ofNat 99, Char.ofNat 116, Char.ofNat 73, Char.ofNat 115, Char.ofNat 80, Char.ofNat 105, Char.ofNat 101, Char.ofNat 99, Char.ofNat 101, Char.ofNat 82, Char.ofNat 111, Char.ofNat 117, Char.ofNat 116, Char.ofNat 105, Char.ofNat 110, Char.ofNat 103]
theorem initOrder_eq : Try.prog.initOrder = String.ofList [Char.ofNat 104, Char.ofNat 97, Char.ofNat 114, Char.ofNat 110, Char.ofNat 101, Char.ofNat 115, Char.ofNat 115, Char.ofNat 32, Char.ofNat 54, Char.ofNat 51, Char.ofNat 55, Char.ofNat 99, Char.ofNat 53, Char.ofNat 55, Char.ofNat 49, Char.ofNat 98, Char.ofNat 98, Char.ofNat 57, Char.ofNat 56, Char.ofNat 50, Char.ofNat 102, Char.ofNat 99, Char.ofNat 48, Char.ofNat 53, Char.ofNat 49, Char.ofNat 54, Char.ofNat 50, Char.ofNat 98, Char.ofNat 53, Char.ofNat 97, Char.ofNat 53, Char.ofNat 48, Char.ofNat 101, Char.ofNat 101, Char.ofNat 97, Char.ofNat 49, Char.ofNat 101, Char.ofNat 55, Char.ofNat 51, Char.ofNat 53, Char.ofNat 56, Char.ofNat 50, Char.ofNat 53, Char.ofNat 57, Char.ofNat 48, Char.ofNat 56, Char.ofNat 50, Char.ofNat 50, Char.ofNat 49, Char.ofNat 100, Char.ofNat 55, Char.ofNat 97, Char.ofNat 54, Char.ofNat 48, Char.ofNat 101, Char.ofNat 99, Char.ofNat 54, Char.ofNat 97, Char.ofNat 48, Char.ofNat 48, Char.ofNat 49, Char.ofNat 50, Char.ofNat 53, Char.ofNat 50, Char.ofNat 102, Char.ofNat 102, Char.ofNat 50, Char.ofNat 102, Char.ofNat 55, Char.ofNat 56, Char.ofNat 56, Char.ofNat 48, Char.ofNat 32, Char.ofNat 99, Char.ofNat 117, Char.ofNat 116, Char.ofNat 32, Char.ofNat 97, Char.ofNat 116, Char.ofNat 32, Char.ofNat 108, Char.ofNat 111, Char.ofNat 111, Char.ofNat 112, Char.ofNat 46, Char.ofNat 101, Char.ofNat 120, Char.ofNat 97, Char.ofNat 109, Char.ofNat 112, Char.ofNat 108, Char.ofNat 101, Char.ofNat 47, Char.ofNat 103, Char.ofNat 48, Char.ofNat 49, Char.ofNat 49, Char.ofNat 52, Char.ofNat 57, Char.ofNat 47, Char.ofNat 108, Char.ofNat 97, Char.ofNat 119, Char.ofNat 115, Char.ofNat 46, Char.ofNat 70, Char.ofNat 110, Char.ofNat 69, Char.ofNat 120, Char.ofNat 97, Char.ofNat 99, Char.ofNat 116, Char.ofNat 86, Char.ofNat 97, Char.ofNat 108, Char.ofNat 105, Char.ofNat 100, Char.ofNat 67, Char.ofNat 104, Char.ofNat 97, Char.ofNat 110, Char.ofNat 110, Char.ofNat 101, Char.ofNat 108, Char.ofNat 32, Char.ofNat 108, Char.ofNat 111, Char.ofNat 111, Char.ofNat 112, Char.ofNat 46, Char.ofNat 101, Char.ofNat 120, Char.ofNat 97, Char.ofNat 109, Char.ofNat 112, Char.ofNat 108, Char.ofNat 101, Char.ofNat 47, Char.ofNat 103, Char.ofNat 48, Char.ofNat 49, Char.ofNat 49, Char.ofNat 52, Char.ofNat 57, Char.ofNat 47, Char.ofNat 108, Char.ofNat 97, Char.ofNat 119, Char.ofNat 115, Char.ofNat 46, Char.ofNat 70, Char.ofNat 110, Char.ofNat 69, Char.ofNat 120, Char.ofNat 97, Char.ofNat 99, Char.ofNat 116, Char.ofNat 83, Char.ofNat 112, Char.ofNat 97, Char.ofNat 110, Char.ofNat 79, Char.ofNat 102, Char.ofNat 32, Char.ofNat 108, Char.ofNat 111, Char.ofNat 111, Char.ofNat 112, Char.ofNat 46, Char.ofNat 101, Char.ofNat 120, Char.ofNat 97, Char.ofNat 109, Char.ofNat 112, Char.ofNat 108, Char.ofNat 101, Char.ofNat 47, Char.ofNat 103, Char.ofNat 48, Char.ofNat 49, Char.ofNat 49, Char.ofNat 52, Char.ofNat 57, Char.ofNat 47, Char.ofNat 108, Char.ofNat 97, Char.ofNat 119, Char.ofNat 115, Char.ofNat 46, Char.ofNat 70, Char.ofNat 110, Char.ofNat 69, Char.ofNat 120, Char.ofNat 97, Char.ofNat 99, Char.ofNat 116, Char.ofNat 78, Char.ofNat 101, Char.ofNat 116, Char.ofNat 115, Char.ofNat 79, Char.ofNat 102, Char.ofNat 32, Char.ofNat 108, Char.ofNat 111, Char.ofNat 111, Char.ofNat 112, Char.ofNat 46, Char.ofNat 101, Char.ofNat 120, Char.ofNat 97, Char.ofNat 109, Char.ofNat 112, Char.ofNat 108, Char.ofNat 101, Char.ofNat 47, Char.ofNat 103, Char.ofNat 48, Char.ofNat 49, Char.ofNat 49, Char.ofNat 52, Char.ofNat 57, Char.ofNat 47, Char.ofNat 108, Char.ofNat 97, Char.ofNat 119, Char.ofNat 115, Char.ofNat 46, Char.ofNat 70, Char.ofNat 110, Char.ofNat 69, Char.ofNat 120, Char.ofNat 97, Char.ofNat 99, Char.ofNat 116, Char.ofNat 68, Char.ofNat 101, Char.ofNat 110, Char.ofNat 115, Char.ofNat 105, Char.ofNat 116, Char.ofNat 121, Char.ofNat 65, Char.ofNat 116, Char.ofNat 32, Char.ofNat 108, Char.ofNat 111, Char.ofNat 111, Char.ofNat 112, Char.ofNat 46, Char.ofNat 101, Char.ofNat 120, Char.ofNat 97, Char.ofNat 109, Char.ofNat 112, Char.ofNat 108, Char.ofNat 101, Char.ofNat 47, Char.ofNat 103, Char.ofNat 48, Char.ofNat 49, Char.ofNat 49, Char.ofNat 52, Char.ofNat 57, Char.ofNat 47, Char.ofNat 108, Char.ofNat 97, Char.ofNat 119, Char.ofNat 115, Char.ofNat 46, Char.ofNat 70, Char.ofNat 110, Char.ofNat 69, Char.ofNat 120, Char.ofNat 97, Char.ofNat 99, Char.ofNat 116, Char.ofNat 68, Char.ofNat 101, Char.ofNat 110, Char.ofNat 115, Char.ofNat 105, Char.ofNat 116, Char.ofNat 121, Char.ofNat 79, Char.ofNat 102, Char.ofNat 32, Char.ofNat 108, Char.ofNat 111, Char.ofNat 111, Char.ofNat 112, Char.ofNat 46, Char.ofNat 101, Char.ofNat 120, Char.ofNat 97, Char.ofNat 109, Char.ofNat 112, Char.ofNat 108, Char.ofNat 101, Char.ofNat 47, Char.ofNat 103, Char.ofNat 48, Char.ofNat 49, Char.ofNat 49, Char.ofNat 52, Char.ofNat 57, Char.ofNat 47, Char.ofNat 108, Char.ofNat 97, Char.ofNat 119, Char.ofNat 115, Char.ofNat 46, Char.ofNat 70, Char.ofNat 110, Char.ofNat 69, Char.ofNat 120, Char.ofNat 97, Char.ofNat 99, Char.ofNat 116, Char.ofNat 77, Char.ofNat 117, Char.ofNat 115, Char.ofNat 116, Char.ofNat 66, Char.ofNat 101, Char.ofNat 65, Char.ofNat 98, Char.ofNat 111, Char.ofNat 118, Char.ofNat 101, Char.ofNat 32, Char.ofNat 108, Char.ofNat 111, Char.ofNat 111, Char.ofNat 112, Char.ofNat 46, Char.ofNat 101, Char.ofNat 120, Char.ofNat 97, Char.ofNat 109, Char.ofNat 112, Char.ofNat 108, Char.ofNat 101, Char.ofNat 47, Char.ofNat 103, Char.ofNat 48, Char.ofNat 49, Char.ofNat 49, Char.ofNat 52, Char.ofNat 57, Char.ofNat 47, Char.ofNat 108, Char.ofNat 97, Char.ofNat 119, Char.ofNat 115, Char.ofNat 46, Char.ofNat 70, Char.ofNat 110, Char.ofNat 69, Char.ofNat 120, Char.ofNat 97, Char.ofNat 99, Char.ofNat 116, Char.ofNat 80, Char.ofNat 105, Char.ofNat 101, Char.ofNat 99, Char.ofNat 101, Char.ofNat 115, Char.ofNat 79, Char.ofNat 102, Char.ofNat 32, Char.ofNat 108, Char.ofNat 111, Char.ofNat 111, Char.ofNat 112, Char.ofNat 46, Char.ofNat 101, Char.ofNat 120, Char.ofNat 97, Char.ofNat 109, Char.ofNat 112, Char.ofNat 108, Char.ofNat 101, Char.ofNat 47, Char.ofNat 103, Char.ofNat 48, Char.ofNat 49, Char.ofNat 49, Char.ofNat 52, Char.ofNat 57, Char.ofNat 47, Char.ofNat 108, Char.ofNat 97, Char.ofNat 119, Char.ofNat 115, Char.ofNat 46, Char.ofNat 70, Char.ofNat 110, Char.ofNat 69, Char.ofNat 120, Char.ofNat 97, Char.ofNat 99, Char.ofNat 116, Char.ofNat 67, Char.ofNat 121, Char.ofNat 99, Char.ofNat 108, Char.ofNat 101, Char.ofNat 79, Char.ofNat 102, Char.ofNat 32, Char.ofNat 108, Char.ofNat 111, Char.ofNat 111, Char.ofNat 112, Char.ofNat 46, Char.ofNat 101, Char.ofNat 120, Char.ofNat 97, Char.ofNat 109, Char.ofNat 112, Char.ofNat 108, Char.ofNat 101, Char.ofNat 47, Char.ofNat 103, Char.ofNat 48, Char.ofNat 49, Char.ofNat 49, Char.ofNat 52, Char.ofNat 57, Char.ofNat 47, Char.ofNat 108, Char.ofNat 97, Char.ofNat 119, Char.ofNat 115, Char.ofNat 46, Char.ofNat 70, Char.ofNat 110, Char.ofNat 69, Char.ofNat 120, Char.ofNat 97, Char.ofNat 99, Char.ofNat 116, Char.ofNat 76, Char.ofNat 111, Char.ofNat 110, Char.ofNat 103, Char.ofNat 101, Char.ofNat 115, Char.ofNat 116, Char.ofNat 67, Char.ofNat 104, Char.ofNat 97, Char.ofNat 105, Char.ofNat 110, Char.ofNat 32, Char.ofNat 108, Char.ofNat 111, Char.ofNat 111, Char.ofNat 112, Char.ofNat 46, Char.ofNat 101, Char.ofNat 120, Char.ofNat 97, Char.ofNat 109, Char.ofNat 112, Char.ofNat 108, Char.ofNat 101, Char.ofNat 47, Char.ofNat 103, Char.ofNat 48, Char.ofNat 49, Char.ofNat 49, Char.ofNat 52, Char.ofNat 57, Char.ofNat 47, Char.ofNat 108, Char.ofNat 97, Char.ofNat 119, Char.ofNat 115, Char.ofNat 46, Char.ofNat 70, Char.ofNat 110, Char.ofNat 69, Char.ofNat 120, Char.ofNat 97, Char.ofNat 99, Char.ofNat 116, Char.ofNat 73, Char.ofNat 115, Char.ofNat 82, Char.ofNat 111, Char.ofNat 117, Char.ofNat 116, Char.ofNat 105, Char.ofNat 110, Char.ofNat 103, Char.ofNat 32, Char.ofNat 108, Char.ofNat 111, Char.ofNat 111, Char.ofNat 112, Char.ofNat 46, Char.ofNat 101, Char.ofNat 120, Char.ofNat 97, Char.ofNat 109, Char.ofNat 112, Char.ofNat 108, Char.ofNat 101, Char.ofNat 47, Char.ofNat 103, Char.ofNat 48, Char.ofNat 49, Char.ofNat 49, Char.ofNat 52, Char.ofNat 57, Char.ofNat 47, Char.ofNat 108, Char.ofNat 97, Char.ofNat 119, Char.ofNat 115, Char.ofNat 46, Char.ofNat 70, Char.ofNat 110, Char.ofNat 69, Char.ofNat 120, Char.ofNat 97, Char.ofNat 99, Char.ofNat 116, Char.ofNat 73, Char.ofNat 115, Char.ofNat 80, Char.ofNat 105, Char.ofNat 101, Char.ofNat 99, Char.ofNat 101, Char.ofNat 82, Char.ofNat 111, Char.ofNat 117, Char.ofNat 116, Char.ofNat 105, Char.ofNat 110, Char.ofNat 103] := by kernel_rfl
set_option maxRecDepth 100000 in
theorem head_eq : Try.prog.initOrder.toList = "harness".toList ++ Char.ofNat 32 :: (sumW ++ Char.ofNat 32 :: ("cut".toList ++ Char.ofNat 32 :: tailW)) := by
  rw [initOrder_eq, String.toList_ofList]; rfl
theorem cut_eq : behindMainWord (wordsSigns Try.prog.initOrder.toList) = "cut".toList :: wordsSigns tailW := behind_cut head_eq rfl (by decide +kernel) (by decide +kernel)
theorem mayEnter_eq : Try.prog.mayEnter = true := mayEnter_of cut_eq (by kernel_rfl) (by kernel_rfl) (by kernel_rfl)
theorem liftsFinal_eq : Try.prog.liftsFinal = false := liftsFinal_of cut_eq
theorem make_eq : Try.prog.make = some .cut := make_of cut_eq
theorem own : ownKnob Try.prog.godebug = none := by kernel_rfl
theorem laid : laidOutB Try.prog = true := by kernel_rfl
end Go.Proofs.Ytdphlhplcmjepaa
end

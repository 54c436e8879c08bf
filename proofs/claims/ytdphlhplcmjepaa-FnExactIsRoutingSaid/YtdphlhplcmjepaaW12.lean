/- Walks: are tracks right (the reference). -/
import Derived.Test.YtdphlhplcmjepaaW11
set_option linter.unusedSimpArgs false
set_option linter.unusedVariables false
set_option maxHeartbeats 1000000
namespace Go.Proofs.Ytdphlhplcmjepaa
open Go.Eng

theorem of67_ac (c : Ch) (hx : c.1.length ≤ 2000000) (hy : c.2.length = c.1.length) {H : List ABox} {kc : Nat} (hkc : H[kc]? = some (.box false [.rd (.int .i64) c.1, .rd (.int .i64) c.2])) : AC Try.prog 67 [.ptr 1 kc 0 0] H
    (fun r H' => r = .rp [.rd (.int .i64) (nets c), .rd .slb (relM (nets c) (Apart c)), .rd .slb (relM (nets c) (Above c))] 0 ∧ H' = H) := by
  refine AC.sealN (new := ofNew H c) ?_ (Pl.ids (by (repeat' (first | exact Pl.v _ | exact Pl.junk | exact Pl.rd rfl _ | exact pl_nil | refine pl_cons ?_ ?_ | refine Pl.agg ?_ | refine Pl.tup ?_ | refine Pl.rp ?_ | refine Pl.fn ?_)); (first | done | fail))) (of67N_ac c hx hy hkc)
  unfold ofNew
  split
  · rename_i h0
    have hm : ∀ R : Int → Int → Prop, ∀ [∀ x y, Decidable (R x y)], relM (nets c) R = [] := fun R _ => List.length_eq_zero_iff.1 (by rw [relM_len]; exact h0)
    rw [hm, hm, ← killAll_length H]
    exact (by (repeat' (first | exact trivial | exact LentV.rowL rfl rfl rfl | exact LentV.rowL rfl rfl (by assumption) | refine LentV.boxL rfl ?_ | exact LentV.nil _ | exact LentV.same _ | refine LentV.aggL ?_ | refine And.intro ?_ ?_)); (first | done | fail))
  · have lA := relM_len (nets c) (Apart c)
    have lB := relM_len (nets c) (Above c)
    rw [← killAll_length H]
    repeat' (first | exact trivial | exact LentV.rowL rfl rfl rfl | exact LentV.rowL rfl rfl lA.symm | exact LentV.rowL rfl rfl lB.symm | refine LentV.boxL rfl ?_ | refine And.intro ?_ ?_)

/-- What is known of the first t tracks. -/
structure PreT (ns : List Int) (tr : Mz) (t : Nat) : Prop where
  rows : ∀ s, s < t → tr.getD s [] ≠ [] ∧ (tr.getD s []).Pairwise (· < ·) ∧ ∀ x ∈ tr.getD s [], x ∈ ns
  once : (tr.take t).flatten.Nodup
/-- And of the first i numbers of the next. -/
structure PreI (ns : List Int) (tr : Mz) (t i : Nat) : Prop where
  pre : PreT ns tr t
  le : i ≤ (tr.getD t []).length
  asc : ((tr.getD t []).take i).Pairwise (· < ·)
  sub : ∀ x ∈ (tr.getD t []).take i, x ∈ ns
  once : ((tr.take t).flatten ++ (tr.getD t []).take i).Nodup
theorem PreT.start (ns : List Int) (tr : Mz) : PreT ns tr 0 := ⟨fun s hs => absurd hs (by omega), by simp⟩
theorem PreT.inner {ns : List Int} {tr : Mz} {t : Nat} (h : PreT ns tr t) : PreI ns tr t 0 := ⟨h, Nat.zero_le _, by simp, fun x hx => by simp at hx, by simpa using h.once⟩
theorem PreI.all {ns : List Int} {tr : Mz} {t i : Nat} (h : PreI ns tr t i) : ∀ x ∈ (tr.take t).flatten ++ (tr.getD t []).take i, x ∈ ns := fun x hx => by
  rcases List.mem_append.1 hx with hx | hx
  · obtain ⟨s, h1, h2, h3⟩ := of_take_flat hx
    exact (h.pre.rows s h1).2.2 x h3
  · exact h.sub x hx
theorem PreI.len {ns : List Int} {tr : Mz} {t i : Nat} (h : PreI ns tr t i) : (tr.take t).flatten.length + i ≤ ns.length := by
  have := nodup_le h.once h.all
  rw [List.length_append, List.length_take, Nat.min_eq_left h.le] at this
  exact this
theorem PreI.step {ns : List Int} {tr : Mz} {t i : Nat} (h : PreI ns tr t i) (hi : i < (tr.getD t []).length) (ha : 0 < i → (tr.getD t []).getD (i - 1) 0 < (tr.getD t []).getD i 0)
    (hx : (tr.getD t []).getD i 0 ∈ ns) (hne : ¬ (tr.getD t []).getD i 0 ∈ (tr.take t).flatten ++ (tr.getD t []).take i) : PreI ns tr t (i + 1) := by
  refine ⟨h.pre, hi, pw_step hi h.asc ha, fun x hm => ?_, ?_⟩
  · rw [take_snoc hi] at hm
    rcases List.mem_append.1 hm with hm | hm
    · exact h.sub x hm
    · rw [List.mem_singleton.1 hm]; exact hx
  · rw [take_snoc hi, ← List.append_assoc, List.nodup_append]
    exact ⟨h.once, by simp, fun a h1 b h2 e => hne (by rw [List.mem_singleton.1 h2] at e; rw [← e]; exact h1)⟩
theorem PreI.done {ns : List Int} {tr : Mz} {t : Nat} (ht : t < tr.length) (hne : tr.getD t [] ≠ []) (h : PreI ns tr t (tr.getD t []).length) : PreT ns tr (t + 1) := by
  have h1 := h.asc
  have h2 := h.sub
  have h3 := h.once
  rw [List.take_length] at h1 h2 h3
  refine ⟨fun s hs => ?_, by rw [flat_snoc ht]; exact h3⟩
  by_cases e : s = t
  · rw [e]; exact ⟨hne, h1, h2⟩
  · exact h.pre.rows s (by omega)
theorem PreT.all {ns : List Int} {tr : Mz} (h : PreT ns tr tr.length) : ∀ l ∈ tr, l ≠ [] ∧ l.Pairwise (· < ·) ∧ ∀ x ∈ l, x ∈ ns := fun l hl => by
  obtain ⟨s, hs, rfl⟩ := List.mem_iff_getElem.1 hl
  have := h.rows s hs
  have e : tr.getD s [] = tr[s] := by simp [List.getD, hs]
  rwa [e] at this
theorem PreT.nodup {ns : List Int} {tr : Mz} (h : PreT ns tr tr.length) : tr.flatten.Nodup := by
  have := h.once
  rwa [List.take_length] at this
/-- A pair that is right. -/
def PairOk (ns : List Int) (AP AB : Int → Int → Prop) (tr : Mz) (i k : Nat) : Prop :=
  ¬ (AP (ns.getD i 0) (ns.getD k 0) ∧ placeFrom 0 tr (ns.getD i 0) = placeFrom 0 tr (ns.getD k 0)) ∧ ¬ (AB (ns.getD i 0) (ns.getD k 0) ∧ placeFrom 0 tr (ns.getD k 0) ≤ placeFrom 0 tr (ns.getD i 0))
theorem Good.pairOk {ns : List Int} {AP AB : Int → Int → Prop} {tr : Mz} (h : Good ns AP AB tr) {i k : Nat} (hi : i < ns.length) (hk : k < ns.length) : PairOk ns AP AB tr i k := h.pairs (getD_mem' hi) (getD_mem' hk)
theorem good_iff {ns : List Int} (hn : ns.Nodup) {AP AB : Int → Int → Prop} {tr : Mz} (h : PreT ns tr tr.length) (hp : ∀ i, i < ns.length → ∀ k, k < ns.length → PairOk ns AP AB tr i k) : tr.flatten.length = ns.length ↔ Good ns AP AB tr := by
  constructor
  · intro h3
    refine good_of_pairs hn h.all h.nodup h3 (fun x hx y hy => ?_)
    have := hp (pos ns x) (pos_lt hx) (pos ns y) (pos_lt hy)
    unfold PairOk at this
    rwa [pos_get hx, pos_get hy] at this
  · intro h3; exact h3.len hn
theorem not_in {ns : List Int} {x : Int} (h : ∀ j, j < ns.length → ¬ ns.getD j 0 = x) : ¬ x ∈ ns := fun hm => by
  obtain ⟨j, h1, h2⟩ := mem_getD hm
  exact h j h1 h2
theorem trk73_ac (ns : List Int) (AP AB : Int → Int → Prop) (ma mb : List (List Bool)) (hA : RelM ns AP ma) (hR : RelM ns AB mb) (hn : ns.Nodup) (hlen : ns.length ≤ 60) (tr : Mz) (hf : Fits 1048576 tr) (H : List ABox) :
    AC Try.prog 73 [.rp [.rd (.int .i64) (ns), .rd .slb (ma), .rd .slb (mb)] 0, .rd (.sli .i64) (tr)] H (fun r H' => r = .v (.bool (decide (Good ns AP AB tr))) ∧ H' = H) := by
  obtain ⟨hf1, hf2⟩ := hf
  obtain ⟨hA1, hA2⟩ := hA
  obtain ⟨hR1, hR2⟩ := hR
  refine AC.enter envOk Try.func73 rfl (by decide) Try.ntmps73 Try.results73 (by simp) fun hB => ?_
  repeat' (first
    | (with_reducible refine AW.sreg envOk fun K hK => ?_)
    | (with_reducible refine AW.region envOk fun K hK => ?_)
    | (with_reducible refine AW.d0reg envOk mixed ?_ ?_ fun K hK => ?_; (first | rfl | exact base_len | exact base_len0); kernel_rfl)
    | (with_reducible refine AW.d0 envOk mixed ?_ ?_ fun K hK => ?_; (first | rfl | exact base_len | exact base_len0); kernel_rfl)
    | (with_reducible refine vcD_nil ?_)
    | (with_reducible refine vcD_cons fun K' hK' => ?_; simp only [vAppend, elems, ↓reduceDIte, List.take_length, Nat.le_refl, List.drop_zero, vGuard, undef, Bool.not_eq_eq_eq_not, dstOk, vcOp, vcF, isPure, putS, vcCall, St.ev, St.put, lk, AVal.ofVal, initS, Nat.reduceLT, true_and, and_true, vBin, vUn, vPick, vConv, vPart, vLoad, vStore, vIdxA, vIdx, vFldA, vExt, vLen, vMin, vNil, vAlloc, vBox, vBuild, vBuildSl, vMake, vSlice, bnd, partsA, fillA, decAll, AVal.flat, AVal.cell, cellsOk, setRange, ETy.enc, ETy.dec, ETy.sz, ETy.d, cond, Nat.reduceBEq, Nat.reduceAdd, Int.toNat_natCast, List.length_set, List.length_append, List.length_replicate, List.length_take, Nat.reduceSub, Nat.reduceEqDiff, get_loc, setBox_loc, next_eq, List.length_cons, List.length_nil, List.map_cons, List.map_nil, List.append_nil, List.nil_append, List.cons_append, List.set_cons_zero, List.set_cons_succ, getD_zero, getD_succ, List.getElem?_cons_succ, List.getElem?_cons_zero, List.take_succ_cons, List.take_zero, List.drop_succ_cons, List.drop_zero, List.all_cons, List.all_nil, Bool.and_true, Bool.true_and, Option.bind_some, Option.map_some, Option.map_none, decide_eq_true_eq, decide_eq_false_iff_not, ne_eq, Bool.not_eq_true, Bool.not_eq_false, Decidable.not_not, not_true_eq_false, not_false_eq_true, forall_const, false_implies, Bool.true_eq_false, Bool.false_eq_true, reduceCtorEq, decide_true, decide_false, Bool.not_true, Bool.not_false, if_true, if_false, Nat.zero_add, Nat.lt_irrefl, Value.oneCell', gt_iff_lt, Nat.reduceLeDiff, Nat.lt_add_one, List.length_append, vMakeMap, vLookup, vMapUpd, vMapEnt, vEntSt, vRange, vEntry, KK.of, KK.av, lkRes, entry_last, vvar_2, vzero_2, vknd_2, vsn_2, vvar_3, vzero_3, vknd_3, vsn_3, vvar_4, vzero_4, vknd_4, vsn_4, vsl_22, vkn_22, vvar_22, vzero_22, vsl_44, vkn_44, vvar_44, vzero_44, vvar_74, vzero_74, vsl_76, vkn_76, vvar_76, vzero_76, vsl_81, vkn_81, vvar_81, vzero_81, vvar_83, vzero_83, vbld_83, vsl_84, vkn_84, vvar_84, vzero_84, vfld_83_0, vfld_83_1, vfld_83_2]; try simp (disch := omega) only [wrap64])
    | (with_reducible refine vcL_nil ?_)
    | (with_reducible refine vcL_cons fun K' hK' => ?_; simp only [vAppend, elems, ↓reduceDIte, List.take_length, Nat.le_refl, List.drop_zero, vGuard, undef, Bool.not_eq_eq_eq_not, dstOk, vcOp, vcF, isPure, putS, vcCall, St.ev, St.put, lk, AVal.ofVal, initS, Nat.reduceLT, true_and, and_true, vBin, vUn, vPick, vConv, vPart, vLoad, vStore, vIdxA, vIdx, vFldA, vExt, vLen, vMin, vNil, vAlloc, vBox, vBuild, vBuildSl, vMake, vSlice, bnd, partsA, fillA, decAll, AVal.flat, AVal.cell, cellsOk, setRange, ETy.enc, ETy.dec, ETy.sz, ETy.d, cond, Nat.reduceBEq, Nat.reduceAdd, Int.toNat_natCast, List.length_set, List.length_append, List.length_replicate, List.length_take, Nat.reduceSub, Nat.reduceEqDiff, get_loc, setBox_loc, next_eq, List.length_cons, List.length_nil, List.map_cons, List.map_nil, List.append_nil, List.nil_append, List.cons_append, List.set_cons_zero, List.set_cons_succ, getD_zero, getD_succ, List.getElem?_cons_succ, List.getElem?_cons_zero, List.take_succ_cons, List.take_zero, List.drop_succ_cons, List.drop_zero, List.all_cons, List.all_nil, Bool.and_true, Bool.true_and, Option.bind_some, Option.map_some, Option.map_none, decide_eq_true_eq, decide_eq_false_iff_not, ne_eq, Bool.not_eq_true, Bool.not_eq_false, Decidable.not_not, not_true_eq_false, not_false_eq_true, forall_const, false_implies, Bool.true_eq_false, Bool.false_eq_true, reduceCtorEq, decide_true, decide_false, Bool.not_true, Bool.not_false, if_true, if_false, Nat.zero_add, Nat.lt_irrefl, Value.oneCell', gt_iff_lt, Nat.reduceLeDiff, Nat.lt_add_one, List.length_append, vMakeMap, vLookup, vMapUpd, vMapEnt, vEntSt, vRange, vEntry, KK.of, KK.av, lkRes, entry_last, vvar_2, vzero_2, vknd_2, vsn_2, vvar_3, vzero_3, vknd_3, vsn_3, vvar_4, vzero_4, vknd_4, vsn_4, vsl_22, vkn_22, vvar_22, vzero_22, vsl_44, vkn_44, vvar_44, vzero_44, vvar_74, vzero_74, vsl_76, vkn_76, vvar_76, vzero_76, vsl_81, vkn_81, vvar_81, vzero_81, vvar_83, vzero_83, vbld_83, vsl_84, vkn_84, vvar_84, vzero_84, vfld_83_0, vfld_83_1, vfld_83_2]; try simp (disch := omega) only [wrap64])
    | (with_reducible refine hK' _ ?_; clear hK' K')
    | (with_reducible refine hK _ ?_; clear hK K)
    | (with_reducible refine And.intro (And.intro rfl rfl) ?_)
    | (with_reducible refine And.intro (by omega) ?_)
    | (with_reducible refine And.intro (fun hg => ?_) (fun hg => ?_) <;> first | simp only [eq_false hg, decide_true, decide_false, and_true, true_and, and_false, false_and, not_true_eq_false, not_false_eq_true] | simp only [eq_true hg, decide_true, decide_false, and_true, true_and, and_false, false_and, not_true_eq_false, not_false_eq_true] | simp only [hg, decide_true, decide_false, and_true, true_and, and_false, false_and, not_true_eq_false, not_false_eq_true])
    | (with_reducible refine And.intro rfl (And.intro rfl rfl))
    | (with_reducible refine thenQ_n ?_)
    | (with_reducible refine thenQ_exit ?_)
    | (with_reducible refine thenQ_ret ?_)
    | (with_reducible refine midQ_ret ?_)
    | (with_reducible refine midQ_exit ?_)
    | (with_reducible refine blockQ_same ?_)
    | (with_reducible refine blockQ_ret ?_)
    | (with_reducible refine blockQ_n ?_)
    | (with_reducible refine AW.exit ?_)
    | (with_reducible refine AW.block ?_)
    | (with_reducible refine AW.cond_t rfl ?_)
    | (with_reducible refine AW.cond_f rfl ?_)
    | (with_reducible refine AW.cond_dec rfl (fun hc => ?_) (fun hc => ?_))
    | (with_reducible refine AW.cond rfl (fun hc => ?_) (fun hc => ?_) <;> try simp only [Bool.not_eq_eq_eq_not, Bool.not_true, Bool.not_false, decide_eq_true_eq, decide_eq_false_iff_not] at hc)
    | (with_reducible refine AW.seq ?_)
    | (with_reducible refine AW.skip ?_)
    | (with_reducible refine AW.ret ?_)
    | (with_reducible refine And.intro ?_ ?_)
    | (with_reducible intro hg; first | simp only [eq_false hg, decide_true, decide_false, and_true, true_and, and_false, false_and, not_true_eq_false, not_false_eq_true] | simp only [eq_true hg, decide_true, decide_false, and_true, true_and, and_false, false_and, not_true_eq_false, not_false_eq_true])
    | (with_reducible refine retQ_drop ?_; simp only [vRes, packRes, vLoad, vPart, lk, cond, Nat.reduceBEq, get_loc, getD_zero, getD_succ, true_and, List.length_cons, List.length_nil, Nat.reduceAdd, Nat.reduceLT, Nat.reduceLeDiff, List.take_succ_cons, List.take_zero, List.drop_succ_cons, List.drop_zero, vvar_2, vzero_2, vknd_2, vsn_2, vvar_3, vzero_3, vknd_3, vsn_3, vvar_4, vzero_4, vknd_4, vsn_4, vsl_22, vkn_22, vvar_22, vzero_22, vsl_44, vkn_44, vvar_44, vzero_44, vvar_74, vzero_74, vsl_76, vkn_76, vvar_76, vzero_76, vsl_81, vkn_81, vvar_81, vzero_81, vvar_83, vzero_83, vbld_83, vsl_84, vkn_84, vvar_84, vzero_84, vfld_83_0, vfld_83_1, vfld_83_2])
    )
  refine AW.loop (fun t : Nat => (⟨175, [(0, .rp [.rd (.int .i64) ns, .rd .slb (ma), .rd .slb (mb)] 0), (1, .rd (.sli .i64) (tr)), (5, .sl 1 (H.length + 0) 0 (ns.length)), (6, .v (.int .i64 (((tr.take t).flatten.length : Int)))), (7, .v (.int .i64 ((t : Int))))], H, [.row false (.int .i64) (atR ns (tr.take t))]⟩ : St)) (fun t => t ≤ tr.length ∧ PreT ns tr t) (fun t => tr.length - t) 0 ⟨Nat.zero_le _, PreT.start ns tr⟩ ?_ ?_
  · simp only [List.take_zero, List.flatten_nil, List.length_nil, atR_nil]
    exact (Weak.slots (by repeat' first | exact trivial | exact ⟨rfl, trivial⟩ | refine ⟨rfl, ?_⟩))
  intro t ⟨ht, hT⟩
  have hl1 := hf2 t
  have hat := atR_len ns (tr.take t)
  repeat' (first
    | (with_reducible refine AW.sreg envOk fun K hK => ?_)
    | (with_reducible refine AW.region envOk fun K hK => ?_)
    | (with_reducible refine AW.d0reg envOk mixed ?_ ?_ fun K hK => ?_; (first | rfl | exact base_len | exact base_len0); kernel_rfl)
    | (with_reducible refine AW.d0 envOk mixed ?_ ?_ fun K hK => ?_; (first | rfl | exact base_len | exact base_len0); kernel_rfl)
    | (with_reducible refine vcD_nil ?_)
    | (with_reducible refine vcD_cons fun K' hK' => ?_; simp only [vAppend, elems, ↓reduceDIte, List.take_length, Nat.le_refl, List.drop_zero, vGuard, undef, Bool.not_eq_eq_eq_not, dstOk, vcOp, vcF, isPure, putS, vcCall, St.ev, St.put, lk, AVal.ofVal, initS, Nat.reduceLT, true_and, and_true, vBin, vUn, vPick, vConv, vPart, vLoad, vStore, vIdxA, vIdx, vFldA, vExt, vLen, vMin, vNil, vAlloc, vBox, vBuild, vBuildSl, vMake, vSlice, bnd, partsA, fillA, decAll, AVal.flat, AVal.cell, cellsOk, setRange, ETy.enc, ETy.dec, ETy.sz, ETy.d, cond, Nat.reduceBEq, Nat.reduceAdd, Int.toNat_natCast, List.length_set, List.length_append, List.length_replicate, List.length_take, Nat.reduceSub, Nat.reduceEqDiff, get_loc, setBox_loc, next_eq, List.length_cons, List.length_nil, List.map_cons, List.map_nil, List.append_nil, List.nil_append, List.cons_append, List.set_cons_zero, List.set_cons_succ, getD_zero, getD_succ, List.getElem?_cons_succ, List.getElem?_cons_zero, List.take_succ_cons, List.take_zero, List.drop_succ_cons, List.drop_zero, List.all_cons, List.all_nil, Bool.and_true, Bool.true_and, Option.bind_some, Option.map_some, Option.map_none, decide_eq_true_eq, decide_eq_false_iff_not, ne_eq, Bool.not_eq_true, Bool.not_eq_false, Decidable.not_not, not_true_eq_false, not_false_eq_true, forall_const, false_implies, Bool.true_eq_false, Bool.false_eq_true, reduceCtorEq, decide_true, decide_false, Bool.not_true, Bool.not_false, if_true, if_false, Nat.zero_add, Nat.lt_irrefl, Value.oneCell', gt_iff_lt, Nat.reduceLeDiff, Nat.lt_add_one, List.length_append, vMakeMap, vLookup, vMapUpd, vMapEnt, vEntSt, vRange, vEntry, KK.of, KK.av, lkRes, entry_last, vvar_2, vzero_2, vknd_2, vsn_2, vvar_3, vzero_3, vknd_3, vsn_3, vvar_4, vzero_4, vknd_4, vsn_4, vsl_22, vkn_22, vvar_22, vzero_22, vsl_44, vkn_44, vvar_44, vzero_44, vvar_74, vzero_74, vsl_76, vkn_76, vvar_76, vzero_76, vsl_81, vkn_81, vvar_81, vzero_81, vvar_83, vzero_83, vbld_83, vsl_84, vkn_84, vvar_84, vzero_84, vfld_83_0, vfld_83_1, vfld_83_2, hat]; try simp (disch := omega) only [wrap64])
    | (with_reducible refine vcL_nil ?_)
    | (with_reducible refine vcL_cons fun K' hK' => ?_; simp only [vAppend, elems, ↓reduceDIte, List.take_length, Nat.le_refl, List.drop_zero, vGuard, undef, Bool.not_eq_eq_eq_not, dstOk, vcOp, vcF, isPure, putS, vcCall, St.ev, St.put, lk, AVal.ofVal, initS, Nat.reduceLT, true_and, and_true, vBin, vUn, vPick, vConv, vPart, vLoad, vStore, vIdxA, vIdx, vFldA, vExt, vLen, vMin, vNil, vAlloc, vBox, vBuild, vBuildSl, vMake, vSlice, bnd, partsA, fillA, decAll, AVal.flat, AVal.cell, cellsOk, setRange, ETy.enc, ETy.dec, ETy.sz, ETy.d, cond, Nat.reduceBEq, Nat.reduceAdd, Int.toNat_natCast, List.length_set, List.length_append, List.length_replicate, List.length_take, Nat.reduceSub, Nat.reduceEqDiff, get_loc, setBox_loc, next_eq, List.length_cons, List.length_nil, List.map_cons, List.map_nil, List.append_nil, List.nil_append, List.cons_append, List.set_cons_zero, List.set_cons_succ, getD_zero, getD_succ, List.getElem?_cons_succ, List.getElem?_cons_zero, List.take_succ_cons, List.take_zero, List.drop_succ_cons, List.drop_zero, List.all_cons, List.all_nil, Bool.and_true, Bool.true_and, Option.bind_some, Option.map_some, Option.map_none, decide_eq_true_eq, decide_eq_false_iff_not, ne_eq, Bool.not_eq_true, Bool.not_eq_false, Decidable.not_not, not_true_eq_false, not_false_eq_true, forall_const, false_implies, Bool.true_eq_false, Bool.false_eq_true, reduceCtorEq, decide_true, decide_false, Bool.not_true, Bool.not_false, if_true, if_false, Nat.zero_add, Nat.lt_irrefl, Value.oneCell', gt_iff_lt, Nat.reduceLeDiff, Nat.lt_add_one, List.length_append, vMakeMap, vLookup, vMapUpd, vMapEnt, vEntSt, vRange, vEntry, KK.of, KK.av, lkRes, entry_last, vvar_2, vzero_2, vknd_2, vsn_2, vvar_3, vzero_3, vknd_3, vsn_3, vvar_4, vzero_4, vknd_4, vsn_4, vsl_22, vkn_22, vvar_22, vzero_22, vsl_44, vkn_44, vvar_44, vzero_44, vvar_74, vzero_74, vsl_76, vkn_76, vvar_76, vzero_76, vsl_81, vkn_81, vvar_81, vzero_81, vvar_83, vzero_83, vbld_83, vsl_84, vkn_84, vvar_84, vzero_84, vfld_83_0, vfld_83_1, vfld_83_2, hat]; try simp (disch := omega) only [wrap64])
    | (with_reducible refine hK' _ ?_; clear hK' K')
    | (with_reducible refine hK _ ?_; clear hK K)
    | (with_reducible refine And.intro (And.intro rfl rfl) ?_)
    | (with_reducible refine And.intro (by omega) ?_)
    | (with_reducible refine And.intro (fun hg => ?_) (fun hg => ?_) <;> first | simp only [eq_false hg, decide_true, decide_false, and_true, true_and, and_false, false_and, not_true_eq_false, not_false_eq_true] | simp only [eq_true hg, decide_true, decide_false, and_true, true_and, and_false, false_and, not_true_eq_false, not_false_eq_true] | simp only [hg, decide_true, decide_false, and_true, true_and, and_false, false_and, not_true_eq_false, not_false_eq_true])
    | (with_reducible refine And.intro rfl (And.intro rfl rfl))
    | (with_reducible refine thenQ_n ?_)
    | (with_reducible refine thenQ_exit ?_)
    | (with_reducible refine thenQ_ret ?_)
    | (with_reducible refine midQ_ret ?_)
    | (with_reducible refine midQ_exit ?_)
    | (with_reducible refine blockQ_same ?_)
    | (with_reducible refine blockQ_ret ?_)
    | (with_reducible refine blockQ_n ?_)
    | (with_reducible refine AW.exit ?_)
    | (with_reducible refine AW.block ?_)
    | (with_reducible refine AW.cond_t rfl ?_)
    | (with_reducible refine AW.cond_f rfl ?_)
    | (with_reducible refine AW.cond_dec rfl (fun hc => ?_) (fun hc => ?_))
    | (with_reducible refine AW.cond rfl (fun hc => ?_) (fun hc => ?_) <;> try simp only [Bool.not_eq_eq_eq_not, Bool.not_true, Bool.not_false, decide_eq_true_eq, decide_eq_false_iff_not] at hc)
    | (with_reducible refine AW.seq ?_)
    | (with_reducible refine AW.skip ?_)
    | (with_reducible refine AW.ret ?_)
    | (with_reducible refine And.intro ?_ ?_)
    | (with_reducible intro hg; first | simp only [eq_false hg, decide_true, decide_false, and_true, true_and, and_false, false_and, not_true_eq_false, not_false_eq_true] | simp only [eq_true hg, decide_true, decide_false, and_true, true_and, and_false, false_and, not_true_eq_false, not_false_eq_true])
    | (with_reducible refine retQ_drop ?_; simp only [vRes, packRes, vLoad, vPart, lk, cond, Nat.reduceBEq, get_loc, getD_zero, getD_succ, true_and, List.length_cons, List.length_nil, Nat.reduceAdd, Nat.reduceLT, Nat.reduceLeDiff, List.take_succ_cons, List.take_zero, List.drop_succ_cons, List.drop_zero, vvar_2, vzero_2, vknd_2, vsn_2, vvar_3, vzero_3, vknd_3, vsn_3, vvar_4, vzero_4, vknd_4, vsn_4, vsl_22, vkn_22, vvar_22, vzero_22, vsl_44, vkn_44, vvar_44, vzero_44, vvar_74, vzero_74, vsl_76, vkn_76, vvar_76, vzero_76, vsl_81, vkn_81, vvar_81, vzero_81, vvar_83, vzero_83, vbld_83, vsl_84, vkn_84, vvar_84, vzero_84, vfld_83_0, vfld_83_1, vfld_83_2])
    )
  · refine ⟨_, _, FinOk.drop hB (Pl.ids (by (repeat' (first | exact Pl.v _ | exact Pl.junk | exact Pl.rd rfl _ | exact pl_nil | refine pl_cons ?_ ?_ | refine Pl.agg ?_ | refine Pl.tup ?_ | refine Pl.rp ?_ | refine Pl.fn ?_)); (first | done | fail))), ?_, rfl⟩
    refine v_bool ?_
    simp only [Bool.false_eq_true, false_iff]
    intro hg
    exact (hg.at (t := t) (by omega)).1 (List.length_eq_zero_iff.1 (by omega))
  · have hne : tr.getD t [] ≠ [] := fun e => by rw [e] at hc; simp at hc
    refine AW.loop (fun i : Nat => (⟨175, [(0, .rp [.rd (.int .i64) ns, .rd .slb (ma), .rd .slb (mb)] 0), (1, .rd (.sli .i64) (tr)), (5, .sl 1 (H.length + 0) 0 (ns.length)), (6, .v (.int .i64 ((((tr.take t).flatten.length + i : Nat) : Int)))), (7, .v (.int .i64 ((t : Int)))), (8, .v (.int .i64 ((i : Int))))], H, [.row false (.int .i64) (atR ns (tr.take t ++ [(tr.getD t []).take i]))]⟩ : St)) (fun i => PreI ns tr t i) (fun i => (tr.getD t []).length - i) 0 hT.inner ?_ ?_
    · simp only [List.take_zero, atR_new]
      exact (Weak.slots (by repeat' first | exact trivial | exact ⟨rfl, trivial⟩ | refine ⟨rfl, ?_⟩))
    intro i hI
    have hl := hI.len
    have hil := hI.le
    have hat2 := atR_len ns (tr.take t ++ [(tr.getD t []).take i])
    have hi3 : ((i : Int) - 1).toNat = i - 1 := by omega
    repeat' (first
      | (with_reducible refine AW.sreg envOk fun K hK => ?_)
      | (with_reducible refine AW.region envOk fun K hK => ?_)
      | (with_reducible refine AW.d0reg envOk mixed ?_ ?_ fun K hK => ?_; (first | rfl | exact base_len | exact base_len0); kernel_rfl)
      | (with_reducible refine AW.d0 envOk mixed ?_ ?_ fun K hK => ?_; (first | rfl | exact base_len | exact base_len0); kernel_rfl)
      | (with_reducible refine vcD_nil ?_)
      | (with_reducible refine vcD_cons fun K' hK' => ?_; simp only [vAppend, elems, ↓reduceDIte, List.take_length, Nat.le_refl, List.drop_zero, vGuard, undef, Bool.not_eq_eq_eq_not, dstOk, vcOp, vcF, isPure, putS, vcCall, St.ev, St.put, lk, AVal.ofVal, initS, Nat.reduceLT, true_and, and_true, vBin, vUn, vPick, vConv, vPart, vLoad, vStore, vIdxA, vIdx, vFldA, vExt, vLen, vMin, vNil, vAlloc, vBox, vBuild, vBuildSl, vMake, vSlice, bnd, partsA, fillA, decAll, AVal.flat, AVal.cell, cellsOk, setRange, ETy.enc, ETy.dec, ETy.sz, ETy.d, cond, Nat.reduceBEq, Nat.reduceAdd, Int.toNat_natCast, List.length_set, List.length_append, List.length_replicate, List.length_take, Nat.reduceSub, Nat.reduceEqDiff, get_loc, setBox_loc, next_eq, List.length_cons, List.length_nil, List.map_cons, List.map_nil, List.append_nil, List.nil_append, List.cons_append, List.set_cons_zero, List.set_cons_succ, getD_zero, getD_succ, List.getElem?_cons_succ, List.getElem?_cons_zero, List.take_succ_cons, List.take_zero, List.drop_succ_cons, List.drop_zero, List.all_cons, List.all_nil, Bool.and_true, Bool.true_and, Option.bind_some, Option.map_some, Option.map_none, decide_eq_true_eq, decide_eq_false_iff_not, ne_eq, Bool.not_eq_true, Bool.not_eq_false, Decidable.not_not, not_true_eq_false, not_false_eq_true, forall_const, false_implies, Bool.true_eq_false, Bool.false_eq_true, reduceCtorEq, decide_true, decide_false, Bool.not_true, Bool.not_false, if_true, if_false, Nat.zero_add, Nat.lt_irrefl, Value.oneCell', gt_iff_lt, Nat.reduceLeDiff, Nat.lt_add_one, List.length_append, vMakeMap, vLookup, vMapUpd, vMapEnt, vEntSt, vRange, vEntry, KK.of, KK.av, lkRes, entry_last, vvar_2, vzero_2, vknd_2, vsn_2, vvar_3, vzero_3, vknd_3, vsn_3, vvar_4, vzero_4, vknd_4, vsn_4, vsl_22, vkn_22, vvar_22, vzero_22, vsl_44, vkn_44, vvar_44, vzero_44, vvar_74, vzero_74, vsl_76, vkn_76, vvar_76, vzero_76, vsl_81, vkn_81, vvar_81, vzero_81, vvar_83, vzero_83, vbld_83, vsl_84, vkn_84, vvar_84, vzero_84, vfld_83_0, vfld_83_1, vfld_83_2, hat2, hi3]; try simp (disch := omega) only [wrap64])
      | (with_reducible refine vcL_nil ?_)
      | (with_reducible refine vcL_cons fun K' hK' => ?_; simp only [vAppend, elems, ↓reduceDIte, List.take_length, Nat.le_refl, List.drop_zero, vGuard, undef, Bool.not_eq_eq_eq_not, dstOk, vcOp, vcF, isPure, putS, vcCall, St.ev, St.put, lk, AVal.ofVal, initS, Nat.reduceLT, true_and, and_true, vBin, vUn, vPick, vConv, vPart, vLoad, vStore, vIdxA, vIdx, vFldA, vExt, vLen, vMin, vNil, vAlloc, vBox, vBuild, vBuildSl, vMake, vSlice, bnd, partsA, fillA, decAll, AVal.flat, AVal.cell, cellsOk, setRange, ETy.enc, ETy.dec, ETy.sz, ETy.d, cond, Nat.reduceBEq, Nat.reduceAdd, Int.toNat_natCast, List.length_set, List.length_append, List.length_replicate, List.length_take, Nat.reduceSub, Nat.reduceEqDiff, get_loc, setBox_loc, next_eq, List.length_cons, List.length_nil, List.map_cons, List.map_nil, List.append_nil, List.nil_append, List.cons_append, List.set_cons_zero, List.set_cons_succ, getD_zero, getD_succ, List.getElem?_cons_succ, List.getElem?_cons_zero, List.take_succ_cons, List.take_zero, List.drop_succ_cons, List.drop_zero, List.all_cons, List.all_nil, Bool.and_true, Bool.true_and, Option.bind_some, Option.map_some, Option.map_none, decide_eq_true_eq, decide_eq_false_iff_not, ne_eq, Bool.not_eq_true, Bool.not_eq_false, Decidable.not_not, not_true_eq_false, not_false_eq_true, forall_const, false_implies, Bool.true_eq_false, Bool.false_eq_true, reduceCtorEq, decide_true, decide_false, Bool.not_true, Bool.not_false, if_true, if_false, Nat.zero_add, Nat.lt_irrefl, Value.oneCell', gt_iff_lt, Nat.reduceLeDiff, Nat.lt_add_one, List.length_append, vMakeMap, vLookup, vMapUpd, vMapEnt, vEntSt, vRange, vEntry, KK.of, KK.av, lkRes, entry_last, vvar_2, vzero_2, vknd_2, vsn_2, vvar_3, vzero_3, vknd_3, vsn_3, vvar_4, vzero_4, vknd_4, vsn_4, vsl_22, vkn_22, vvar_22, vzero_22, vsl_44, vkn_44, vvar_44, vzero_44, vvar_74, vzero_74, vsl_76, vkn_76, vvar_76, vzero_76, vsl_81, vkn_81, vvar_81, vzero_81, vvar_83, vzero_83, vbld_83, vsl_84, vkn_84, vvar_84, vzero_84, vfld_83_0, vfld_83_1, vfld_83_2, hat2, hi3]; try simp (disch := omega) only [wrap64])
      | (with_reducible refine hK' _ ?_; clear hK' K')
      | (with_reducible refine hK _ ?_; clear hK K)
      | (with_reducible refine And.intro (And.intro rfl rfl) ?_)
      | (with_reducible refine And.intro (by omega) ?_)
      | (with_reducible refine And.intro (fun hg => ?_) (fun hg => ?_) <;> first | simp only [eq_false hg, decide_true, decide_false, and_true, true_and, and_false, false_and, not_true_eq_false, not_false_eq_true] | simp only [eq_true hg, decide_true, decide_false, and_true, true_and, and_false, false_and, not_true_eq_false, not_false_eq_true] | simp only [hg, decide_true, decide_false, and_true, true_and, and_false, false_and, not_true_eq_false, not_false_eq_true])
      | (with_reducible refine And.intro rfl (And.intro rfl rfl))
      | (with_reducible refine thenQ_n ?_)
      | (with_reducible refine thenQ_exit ?_)
      | (with_reducible refine thenQ_ret ?_)
      | (with_reducible refine midQ_ret ?_)
      | (with_reducible refine midQ_exit ?_)
      | (with_reducible refine blockQ_same ?_)
      | (with_reducible refine blockQ_ret ?_)
      | (with_reducible refine blockQ_n ?_)
      | (with_reducible refine AW.exit ?_)
      | (with_reducible refine AW.block ?_)
      | (with_reducible refine AW.cond_t rfl ?_)
      | (with_reducible refine AW.cond_f rfl ?_)
      | (with_reducible refine AW.cond_dec rfl (fun hc => ?_) (fun hc => ?_))
      | (with_reducible refine AW.cond rfl (fun hc => ?_) (fun hc => ?_) <;> try simp only [Bool.not_eq_eq_eq_not, Bool.not_true, Bool.not_false, decide_eq_true_eq, decide_eq_false_iff_not] at hc)
      | (with_reducible refine AW.seq ?_)
      | (with_reducible refine AW.skip ?_)
      | (with_reducible refine AW.ret ?_)
      | (with_reducible refine And.intro ?_ ?_)
      | (with_reducible intro hg; first | simp only [eq_false hg, decide_true, decide_false, and_true, true_and, and_false, false_and, not_true_eq_false, not_false_eq_true] | simp only [eq_true hg, decide_true, decide_false, and_true, true_and, and_false, false_and, not_true_eq_false, not_false_eq_true])
      | (with_reducible refine retQ_drop ?_; simp only [vRes, packRes, vLoad, vPart, lk, cond, Nat.reduceBEq, get_loc, getD_zero, getD_succ, true_and, List.length_cons, List.length_nil, Nat.reduceAdd, Nat.reduceLT, Nat.reduceLeDiff, List.take_succ_cons, List.take_zero, List.drop_succ_cons, List.drop_zero, vvar_2, vzero_2, vknd_2, vsn_2, vvar_3, vzero_3, vknd_3, vsn_3, vvar_4, vzero_4, vknd_4, vsn_4, vsl_22, vkn_22, vvar_22, vzero_22, vsl_44, vkn_44, vvar_44, vzero_44, vvar_74, vzero_74, vsl_76, vkn_76, vvar_76, vzero_76, vsl_81, vkn_81, vvar_81, vzero_81, vvar_83, vzero_83, vbld_83, vsl_84, vkn_84, vvar_84, vzero_84, vfld_83_0, vfld_83_1, vfld_83_2])
      )
    · refine ⟨_, _, FinOk.drop hB (Pl.ids (by (repeat' (first | exact Pl.v _ | exact Pl.junk | exact Pl.rd rfl _ | exact pl_nil | refine pl_cons ?_ ?_ | refine Pl.agg ?_ | refine Pl.tup ?_ | refine Pl.rp ?_ | refine Pl.fn ?_)); (first | done | fail))), ?_, rfl⟩
      refine v_bool ?_
      simp only [Bool.false_eq_true, false_iff]
      intro hg
      have := pw_at (hg.at (t := t) (by omega)).2.1 (i := i) (j := i - 1) (by omega) (by omega)
      omega
    iterate 2
      focus
        have ha : 0 < i → (tr.getD t []).getD (i - 1) 0 < (tr.getD t []).getD i 0 := fun _ => by omega
        refine AW.loop (fun k : Nat => (⟨175, [(0, .rp [.rd (.int .i64) ns, .rd .slb (ma), .rd .slb (mb)] 0), (1, .rd (.sli .i64) (tr)), (5, .sl 1 (H.length + 0) 0 (ns.length)), (6, .v (.int .i64 ((((tr.take t).flatten.length + i : Nat) : Int)))), (7, .v (.int .i64 ((t : Int)))), (8, .v (.int .i64 ((i : Int)))), (9, .v (.int .i64 ((k : Int))))], H, [.row false (.int .i64) (atR ns (tr.take t ++ [(tr.getD t []).take i]))]⟩ : St)) (fun k => k ≤ ns.length ∧ ∀ j, j < k → ¬ ns.getD j 0 = (tr.getD t []).getD i 0) (fun k => ns.length - k) 0 ⟨Nat.zero_le _, fun j hj => absurd hj (by omega)⟩ (Weak.slots (by repeat' first | exact trivial | exact ⟨rfl, trivial⟩ | refine ⟨rfl, ?_⟩)) ?_
        intro k ⟨hk, hK⟩
        repeat' (first
          | (with_reducible refine AW.sreg envOk fun K hK => ?_)
          | (with_reducible refine AW.region envOk fun K hK => ?_)
          | (with_reducible refine AW.d0reg envOk mixed ?_ ?_ fun K hK => ?_; (first | rfl | exact base_len | exact base_len0); kernel_rfl)
          | (with_reducible refine AW.d0 envOk mixed ?_ ?_ fun K hK => ?_; (first | rfl | exact base_len | exact base_len0); kernel_rfl)
          | (with_reducible refine vcD_nil ?_)
          | (with_reducible refine vcD_cons fun K' hK' => ?_; simp only [vAppend, elems, ↓reduceDIte, List.take_length, Nat.le_refl, List.drop_zero, vGuard, undef, Bool.not_eq_eq_eq_not, dstOk, vcOp, vcF, isPure, putS, vcCall, St.ev, St.put, lk, AVal.ofVal, initS, Nat.reduceLT, true_and, and_true, vBin, vUn, vPick, vConv, vPart, vLoad, vStore, vIdxA, vIdx, vFldA, vExt, vLen, vMin, vNil, vAlloc, vBox, vBuild, vBuildSl, vMake, vSlice, bnd, partsA, fillA, decAll, AVal.flat, AVal.cell, cellsOk, setRange, ETy.enc, ETy.dec, ETy.sz, ETy.d, cond, Nat.reduceBEq, Nat.reduceAdd, Int.toNat_natCast, List.length_set, List.length_append, List.length_replicate, List.length_take, Nat.reduceSub, Nat.reduceEqDiff, get_loc, setBox_loc, next_eq, List.length_cons, List.length_nil, List.map_cons, List.map_nil, List.append_nil, List.nil_append, List.cons_append, List.set_cons_zero, List.set_cons_succ, getD_zero, getD_succ, List.getElem?_cons_succ, List.getElem?_cons_zero, List.take_succ_cons, List.take_zero, List.drop_succ_cons, List.drop_zero, List.all_cons, List.all_nil, Bool.and_true, Bool.true_and, Option.bind_some, Option.map_some, Option.map_none, decide_eq_true_eq, decide_eq_false_iff_not, ne_eq, Bool.not_eq_true, Bool.not_eq_false, Decidable.not_not, not_true_eq_false, not_false_eq_true, forall_const, false_implies, Bool.true_eq_false, Bool.false_eq_true, reduceCtorEq, decide_true, decide_false, Bool.not_true, Bool.not_false, if_true, if_false, Nat.zero_add, Nat.lt_irrefl, Value.oneCell', gt_iff_lt, Nat.reduceLeDiff, Nat.lt_add_one, List.length_append, vMakeMap, vLookup, vMapUpd, vMapEnt, vEntSt, vRange, vEntry, KK.of, KK.av, lkRes, entry_last, vvar_2, vzero_2, vknd_2, vsn_2, vvar_3, vzero_3, vknd_3, vsn_3, vvar_4, vzero_4, vknd_4, vsn_4, vsl_22, vkn_22, vvar_22, vzero_22, vsl_44, vkn_44, vvar_44, vzero_44, vvar_74, vzero_74, vsl_76, vkn_76, vvar_76, vzero_76, vsl_81, vkn_81, vvar_81, vzero_81, vvar_83, vzero_83, vbld_83, vsl_84, vkn_84, vvar_84, vzero_84, vfld_83_0, vfld_83_1, vfld_83_2, hat2]; try simp (disch := omega) only [wrap64])
          | (with_reducible refine vcL_nil ?_)
          | (with_reducible refine vcL_cons fun K' hK' => ?_; simp only [vAppend, elems, ↓reduceDIte, List.take_length, Nat.le_refl, List.drop_zero, vGuard, undef, Bool.not_eq_eq_eq_not, dstOk, vcOp, vcF, isPure, putS, vcCall, St.ev, St.put, lk, AVal.ofVal, initS, Nat.reduceLT, true_and, and_true, vBin, vUn, vPick, vConv, vPart, vLoad, vStore, vIdxA, vIdx, vFldA, vExt, vLen, vMin, vNil, vAlloc, vBox, vBuild, vBuildSl, vMake, vSlice, bnd, partsA, fillA, decAll, AVal.flat, AVal.cell, cellsOk, setRange, ETy.enc, ETy.dec, ETy.sz, ETy.d, cond, Nat.reduceBEq, Nat.reduceAdd, Int.toNat_natCast, List.length_set, List.length_append, List.length_replicate, List.length_take, Nat.reduceSub, Nat.reduceEqDiff, get_loc, setBox_loc, next_eq, List.length_cons, List.length_nil, List.map_cons, List.map_nil, List.append_nil, List.nil_append, List.cons_append, List.set_cons_zero, List.set_cons_succ, getD_zero, getD_succ, List.getElem?_cons_succ, List.getElem?_cons_zero, List.take_succ_cons, List.take_zero, List.drop_succ_cons, List.drop_zero, List.all_cons, List.all_nil, Bool.and_true, Bool.true_and, Option.bind_some, Option.map_some, Option.map_none, decide_eq_true_eq, decide_eq_false_iff_not, ne_eq, Bool.not_eq_true, Bool.not_eq_false, Decidable.not_not, not_true_eq_false, not_false_eq_true, forall_const, false_implies, Bool.true_eq_false, Bool.false_eq_true, reduceCtorEq, decide_true, decide_false, Bool.not_true, Bool.not_false, if_true, if_false, Nat.zero_add, Nat.lt_irrefl, Value.oneCell', gt_iff_lt, Nat.reduceLeDiff, Nat.lt_add_one, List.length_append, vMakeMap, vLookup, vMapUpd, vMapEnt, vEntSt, vRange, vEntry, KK.of, KK.av, lkRes, entry_last, vvar_2, vzero_2, vknd_2, vsn_2, vvar_3, vzero_3, vknd_3, vsn_3, vvar_4, vzero_4, vknd_4, vsn_4, vsl_22, vkn_22, vvar_22, vzero_22, vsl_44, vkn_44, vvar_44, vzero_44, vvar_74, vzero_74, vsl_76, vkn_76, vvar_76, vzero_76, vsl_81, vkn_81, vvar_81, vzero_81, vvar_83, vzero_83, vbld_83, vsl_84, vkn_84, vvar_84, vzero_84, vfld_83_0, vfld_83_1, vfld_83_2, hat2]; try simp (disch := omega) only [wrap64])
          | (with_reducible refine hK' _ ?_; clear hK' K')
          | (with_reducible refine hK _ ?_; clear hK K)
          | (with_reducible refine And.intro (And.intro rfl rfl) ?_)
          | (with_reducible refine And.intro (by omega) ?_)
          | (with_reducible refine And.intro (fun hg => ?_) (fun hg => ?_) <;> first | simp only [eq_false hg, decide_true, decide_false, and_true, true_and, and_false, false_and, not_true_eq_false, not_false_eq_true] | simp only [eq_true hg, decide_true, decide_false, and_true, true_and, and_false, false_and, not_true_eq_false, not_false_eq_true] | simp only [hg, decide_true, decide_false, and_true, true_and, and_false, false_and, not_true_eq_false, not_false_eq_true])
          | (with_reducible refine And.intro rfl (And.intro rfl rfl))
          | (with_reducible refine thenQ_n ?_)
          | (with_reducible refine thenQ_exit ?_)
          | (with_reducible refine thenQ_ret ?_)
          | (with_reducible refine midQ_ret ?_)
          | (with_reducible refine midQ_exit ?_)
          | (with_reducible refine blockQ_same ?_)
          | (with_reducible refine blockQ_ret ?_)
          | (with_reducible refine blockQ_n ?_)
          | (with_reducible refine AW.exit ?_)
          | (with_reducible refine AW.block ?_)
          | (with_reducible refine AW.cond_t rfl ?_)
          | (with_reducible refine AW.cond_f rfl ?_)
          | (with_reducible refine AW.cond_dec rfl (fun hc => ?_) (fun hc => ?_))
          | (with_reducible refine AW.cond rfl (fun hc => ?_) (fun hc => ?_) <;> try simp only [Bool.not_eq_eq_eq_not, Bool.not_true, Bool.not_false, decide_eq_true_eq, decide_eq_false_iff_not] at hc)
          | (with_reducible refine AW.seq ?_)
          | (with_reducible refine AW.skip ?_)
          | (with_reducible refine AW.ret ?_)
          | (with_reducible refine And.intro ?_ ?_)
          | (with_reducible intro hg; first | simp only [eq_false hg, decide_true, decide_false, and_true, true_and, and_false, false_and, not_true_eq_false, not_false_eq_true] | simp only [eq_true hg, decide_true, decide_false, and_true, true_and, and_false, false_and, not_true_eq_false, not_false_eq_true])
          | (with_reducible refine retQ_drop ?_; simp only [vRes, packRes, vLoad, vPart, lk, cond, Nat.reduceBEq, get_loc, getD_zero, getD_succ, true_and, List.length_cons, List.length_nil, Nat.reduceAdd, Nat.reduceLT, Nat.reduceLeDiff, List.take_succ_cons, List.take_zero, List.drop_succ_cons, List.drop_zero, vvar_2, vzero_2, vknd_2, vsn_2, vvar_3, vzero_3, vknd_3, vsn_3, vvar_4, vzero_4, vknd_4, vsn_4, vsl_22, vkn_22, vvar_22, vzero_22, vsl_44, vkn_44, vvar_44, vzero_44, vvar_74, vzero_74, vsl_76, vkn_76, vvar_76, vzero_76, vsl_81, vkn_81, vvar_81, vzero_81, vvar_83, vzero_83, vbld_83, vsl_84, vkn_84, vvar_84, vzero_84, vfld_83_0, vfld_83_1, vfld_83_2])
          )
        · refine ⟨k + 1, ⟨by omega, fun j hj => ?_⟩, by omega, (Weak.slots (by repeat' first | exact trivial | exact ⟨rfl, trivial⟩ | refine ⟨rfl, ?_⟩))⟩
          by_cases e : j = k
          · subst e; assumption
          · exact hK j (by omega)
        · have hkn : k < ns.length := by omega
          have hx : ns.getD k 0 = (tr.getD t []).getD i 0 := Decidable.not_not.1 (by assumption)
          rw [atR_get hkn] at hc
          refine ⟨_, _, FinOk.drop hB (Pl.ids (by (repeat' (first | exact Pl.v _ | exact Pl.junk | exact Pl.rd rfl _ | exact pl_nil | refine pl_cons ?_ ?_ | refine Pl.agg ?_ | refine Pl.tup ?_ | refine Pl.rp ?_ | refine Pl.fn ?_)); (first | done | fail))), ?_, rfl⟩
          refine v_bool ?_
          simp only [Bool.false_eq_true, false_iff]
          intro hg
          have h1 := once_at hg.once (t := t) (i := i) (by omega) (by omega)
          rw [← hx] at h1
          have h2 : ¬ ns.getD k 0 ∈ (tr.take t ++ [(tr.getD t []).take i]).flatten := by rw [List.flatten_append]; simpa using h1
          rw [(place_zero _ _ 0).2 h2] at hc
          omega
        · have hkn : k < ns.length := by omega
          have hx : ns.getD k 0 = (tr.getD t []).getD i 0 := Decidable.not_not.1 (by assumption)
          rw [atR_get hkn] at hc
          have hz : placeFrom 0 (tr.take t ++ [(tr.getD t []).take i]) (ns.getD k 0) = 0 := by
            have := (place_nonneg (ns.getD k 0) (tr.take t ++ [(tr.getD t []).take i]) 0).1
            omega
          have h2 := (place_zero _ _ 0).1 hz
          have h1 : ¬ ns.getD k 0 ∈ (tr.take t).flatten ++ (tr.getD t []).take i := by rw [List.flatten_append] at h2; simpa using h2
          have e := atR_set hn hkn hx (by rw [← hx]; exact h1)
          have eL : ((tr.take t).length : Int) = (t : Int) := by rw [List.length_take, Nat.min_eq_left (by omega)]
          rw [eL, ← take_snoc (show i < (tr.getD t []).length by omega)] at e
          refine ⟨i + 1, hI.step (by omega) ha (hx ▸ getD_mem' hkn) (by rw [← hx]; exact h1), by omega, ?_⟩
          rw [e]
          exact (Weak.slots (by repeat' first | exact trivial | exact ⟨rfl, trivial⟩ | refine ⟨rfl, ?_⟩))
        · exact absurd hg (by omega)
        · refine ⟨_, _, FinOk.drop hB (Pl.ids (by (repeat' (first | exact Pl.v _ | exact Pl.junk | exact Pl.rd rfl _ | exact pl_nil | refine pl_cons ?_ ?_ | refine Pl.agg ?_ | refine Pl.tup ?_ | refine Pl.rp ?_ | refine Pl.fn ?_)); (first | done | fail))), ?_, rfl⟩
          refine v_bool ?_
          simp only [Bool.false_eq_true, false_iff]
          intro hg'
          exact not_in (fun j hj => hK j (by omega)) ((hg'.at (t := t) (by omega)).2.2 _ (getD_mem' (by omega)))
    · obtain rfl : i = (tr.getD t []).length := by omega
      refine ⟨t + 1, ⟨by omega, hI.done (by omega) hne⟩, by omega, ?_⟩
      have e1 : (tr.take (t + 1)).flatten.length = (tr.take t).flatten.length + (tr.getD t []).length := by rw [flat_snoc (by omega), List.length_append]
      rw [e1, takeL_snoc (by omega), List.take_length]
      exact (Weak.slots (by repeat' first | exact trivial | exact ⟨rfl, trivial⟩ | refine ⟨rfl, ?_⟩))
  · obtain rfl : t = tr.length := by omega
    rw [List.take_length]
    refine AW.loop (fun i : Nat => (⟨175, [(0, .rp [.rd (.int .i64) ns, .rd .slb (ma), .rd .slb (mb)] 0), (1, .rd (.sli .i64) (tr)), (5, .sl 1 (H.length + 0) 0 (ns.length)), (6, .v (.int .i64 ((tr.flatten.length : Int)))), (10, .v (.int .i64 ((i : Int))))], H, [.row false (.int .i64) (atR ns tr)]⟩ : St)) (fun i => i ≤ ns.length ∧ ∀ j, j < i → ∀ k, k < ns.length → PairOk ns AP AB tr j k) (fun i => ns.length - i) 0 ⟨Nat.zero_le _, fun j hj => absurd hj (by omega)⟩ (Weak.slots (by repeat' first | exact trivial | exact ⟨rfl, trivial⟩ | refine ⟨rfl, ?_⟩)) ?_
    intro i ⟨hi, hI⟩
    rw [List.take_length] at hat
    repeat' (first
      | (with_reducible refine AW.sreg envOk fun K hK => ?_)
      | (with_reducible refine AW.region envOk fun K hK => ?_)
      | (with_reducible refine AW.d0reg envOk mixed ?_ ?_ fun K hK => ?_; (first | rfl | exact base_len | exact base_len0); kernel_rfl)
      | (with_reducible refine AW.d0 envOk mixed ?_ ?_ fun K hK => ?_; (first | rfl | exact base_len | exact base_len0); kernel_rfl)
      | (with_reducible refine vcD_nil ?_)
      | (with_reducible refine vcD_cons fun K' hK' => ?_; simp only [vAppend, elems, ↓reduceDIte, List.take_length, Nat.le_refl, List.drop_zero, vGuard, undef, Bool.not_eq_eq_eq_not, dstOk, vcOp, vcF, isPure, putS, vcCall, St.ev, St.put, lk, AVal.ofVal, initS, Nat.reduceLT, true_and, and_true, vBin, vUn, vPick, vConv, vPart, vLoad, vStore, vIdxA, vIdx, vFldA, vExt, vLen, vMin, vNil, vAlloc, vBox, vBuild, vBuildSl, vMake, vSlice, bnd, partsA, fillA, decAll, AVal.flat, AVal.cell, cellsOk, setRange, ETy.enc, ETy.dec, ETy.sz, ETy.d, cond, Nat.reduceBEq, Nat.reduceAdd, Int.toNat_natCast, List.length_set, List.length_append, List.length_replicate, List.length_take, Nat.reduceSub, Nat.reduceEqDiff, get_loc, setBox_loc, next_eq, List.length_cons, List.length_nil, List.map_cons, List.map_nil, List.append_nil, List.nil_append, List.cons_append, List.set_cons_zero, List.set_cons_succ, getD_zero, getD_succ, List.getElem?_cons_succ, List.getElem?_cons_zero, List.take_succ_cons, List.take_zero, List.drop_succ_cons, List.drop_zero, List.all_cons, List.all_nil, Bool.and_true, Bool.true_and, Option.bind_some, Option.map_some, Option.map_none, decide_eq_true_eq, decide_eq_false_iff_not, ne_eq, Bool.not_eq_true, Bool.not_eq_false, Decidable.not_not, not_true_eq_false, not_false_eq_true, forall_const, false_implies, Bool.true_eq_false, Bool.false_eq_true, reduceCtorEq, decide_true, decide_false, Bool.not_true, Bool.not_false, if_true, if_false, Nat.zero_add, Nat.lt_irrefl, Value.oneCell', gt_iff_lt, Nat.reduceLeDiff, Nat.lt_add_one, List.length_append, vMakeMap, vLookup, vMapUpd, vMapEnt, vEntSt, vRange, vEntry, KK.of, KK.av, lkRes, entry_last, vvar_2, vzero_2, vknd_2, vsn_2, vvar_3, vzero_3, vknd_3, vsn_3, vvar_4, vzero_4, vknd_4, vsn_4, vsl_22, vkn_22, vvar_22, vzero_22, vsl_44, vkn_44, vvar_44, vzero_44, vvar_74, vzero_74, vsl_76, vkn_76, vvar_76, vzero_76, vsl_81, vkn_81, vvar_81, vzero_81, vvar_83, vzero_83, vbld_83, vsl_84, vkn_84, vvar_84, vzero_84, vfld_83_0, vfld_83_1, vfld_83_2, hat]; try simp (disch := omega) only [wrap64])
      | (with_reducible refine vcL_nil ?_)
      | (with_reducible refine vcL_cons fun K' hK' => ?_; simp only [vAppend, elems, ↓reduceDIte, List.take_length, Nat.le_refl, List.drop_zero, vGuard, undef, Bool.not_eq_eq_eq_not, dstOk, vcOp, vcF, isPure, putS, vcCall, St.ev, St.put, lk, AVal.ofVal, initS, Nat.reduceLT, true_and, and_true, vBin, vUn, vPick, vConv, vPart, vLoad, vStore, vIdxA, vIdx, vFldA, vExt, vLen, vMin, vNil, vAlloc, vBox, vBuild, vBuildSl, vMake, vSlice, bnd, partsA, fillA, decAll, AVal.flat, AVal.cell, cellsOk, setRange, ETy.enc, ETy.dec, ETy.sz, ETy.d, cond, Nat.reduceBEq, Nat.reduceAdd, Int.toNat_natCast, List.length_set, List.length_append, List.length_replicate, List.length_take, Nat.reduceSub, Nat.reduceEqDiff, get_loc, setBox_loc, next_eq, List.length_cons, List.length_nil, List.map_cons, List.map_nil, List.append_nil, List.nil_append, List.cons_append, List.set_cons_zero, List.set_cons_succ, getD_zero, getD_succ, List.getElem?_cons_succ, List.getElem?_cons_zero, List.take_succ_cons, List.take_zero, List.drop_succ_cons, List.drop_zero, List.all_cons, List.all_nil, Bool.and_true, Bool.true_and, Option.bind_some, Option.map_some, Option.map_none, decide_eq_true_eq, decide_eq_false_iff_not, ne_eq, Bool.not_eq_true, Bool.not_eq_false, Decidable.not_not, not_true_eq_false, not_false_eq_true, forall_const, false_implies, Bool.true_eq_false, Bool.false_eq_true, reduceCtorEq, decide_true, decide_false, Bool.not_true, Bool.not_false, if_true, if_false, Nat.zero_add, Nat.lt_irrefl, Value.oneCell', gt_iff_lt, Nat.reduceLeDiff, Nat.lt_add_one, List.length_append, vMakeMap, vLookup, vMapUpd, vMapEnt, vEntSt, vRange, vEntry, KK.of, KK.av, lkRes, entry_last, vvar_2, vzero_2, vknd_2, vsn_2, vvar_3, vzero_3, vknd_3, vsn_3, vvar_4, vzero_4, vknd_4, vsn_4, vsl_22, vkn_22, vvar_22, vzero_22, vsl_44, vkn_44, vvar_44, vzero_44, vvar_74, vzero_74, vsl_76, vkn_76, vvar_76, vzero_76, vsl_81, vkn_81, vvar_81, vzero_81, vvar_83, vzero_83, vbld_83, vsl_84, vkn_84, vvar_84, vzero_84, vfld_83_0, vfld_83_1, vfld_83_2, hat]; try simp (disch := omega) only [wrap64])
      | (with_reducible refine hK' _ ?_; clear hK' K')
      | (with_reducible refine hK _ ?_; clear hK K)
      | (with_reducible refine And.intro (And.intro rfl rfl) ?_)
      | (with_reducible refine And.intro (by omega) ?_)
      | (with_reducible refine And.intro (fun hg => ?_) (fun hg => ?_) <;> first | simp only [eq_false hg, decide_true, decide_false, and_true, true_and, and_false, false_and, not_true_eq_false, not_false_eq_true] | simp only [eq_true hg, decide_true, decide_false, and_true, true_and, and_false, false_and, not_true_eq_false, not_false_eq_true] | simp only [hg, decide_true, decide_false, and_true, true_and, and_false, false_and, not_true_eq_false, not_false_eq_true])
      | (with_reducible refine And.intro rfl (And.intro rfl rfl))
      | (with_reducible refine thenQ_n ?_)
      | (with_reducible refine thenQ_exit ?_)
      | (with_reducible refine thenQ_ret ?_)
      | (with_reducible refine midQ_ret ?_)
      | (with_reducible refine midQ_exit ?_)
      | (with_reducible refine blockQ_same ?_)
      | (with_reducible refine blockQ_ret ?_)
      | (with_reducible refine blockQ_n ?_)
      | (with_reducible refine AW.exit ?_)
      | (with_reducible refine AW.block ?_)
      | (with_reducible refine AW.cond_t rfl ?_)
      | (with_reducible refine AW.cond_f rfl ?_)
      | (with_reducible refine AW.cond_dec rfl (fun hc => ?_) (fun hc => ?_))
      | (with_reducible refine AW.cond rfl (fun hc => ?_) (fun hc => ?_) <;> try simp only [Bool.not_eq_eq_eq_not, Bool.not_true, Bool.not_false, decide_eq_true_eq, decide_eq_false_iff_not] at hc)
      | (with_reducible refine AW.seq ?_)
      | (with_reducible refine AW.skip ?_)
      | (with_reducible refine AW.ret ?_)
      | (with_reducible refine And.intro ?_ ?_)
      | (with_reducible intro hg; first | simp only [eq_false hg, decide_true, decide_false, and_true, true_and, and_false, false_and, not_true_eq_false, not_false_eq_true] | simp only [eq_true hg, decide_true, decide_false, and_true, true_and, and_false, false_and, not_true_eq_false, not_false_eq_true])
      | (with_reducible refine retQ_drop ?_; simp only [vRes, packRes, vLoad, vPart, lk, cond, Nat.reduceBEq, get_loc, getD_zero, getD_succ, true_and, List.length_cons, List.length_nil, Nat.reduceAdd, Nat.reduceLT, Nat.reduceLeDiff, List.take_succ_cons, List.take_zero, List.drop_succ_cons, List.drop_zero, vvar_2, vzero_2, vknd_2, vsn_2, vvar_3, vzero_3, vknd_3, vsn_3, vvar_4, vzero_4, vknd_4, vsn_4, vsl_22, vkn_22, vvar_22, vzero_22, vsl_44, vkn_44, vvar_44, vzero_44, vvar_74, vzero_74, vsl_76, vkn_76, vvar_76, vzero_76, vsl_81, vkn_81, vvar_81, vzero_81, vvar_83, vzero_83, vbld_83, vsl_84, vkn_84, vvar_84, vzero_84, vfld_83_0, vfld_83_1, vfld_83_2])
      )
    · refine AW.loop (fun k : Nat => (⟨175, [(0, .rp [.rd (.int .i64) ns, .rd .slb (ma), .rd .slb (mb)] 0), (1, .rd (.sli .i64) (tr)), (5, .sl 1 (H.length + 0) 0 (ns.length)), (6, .v (.int .i64 ((tr.flatten.length : Int)))), (10, .v (.int .i64 ((i : Int)))), (11, .v (.int .i64 ((k : Int))))], H, [.row false (.int .i64) (atR ns tr)]⟩ : St)) (fun k => k ≤ ns.length ∧ ∀ j, j < k → PairOk ns AP AB tr i j) (fun k => ns.length - k) 0 ⟨Nat.zero_le _, fun j hj => absurd hj (by omega)⟩ (Weak.slots (by repeat' first | exact trivial | exact ⟨rfl, trivial⟩ | refine ⟨rfl, ?_⟩)) ?_
      intro k ⟨hk, hK⟩
      have lA := (hA2 i (by omega)).1
      have lB := (hR2 i (by omega)).1
      repeat' (first
        | (with_reducible refine AW.sreg envOk fun K hK => ?_)
        | (with_reducible refine AW.region envOk fun K hK => ?_)
        | (with_reducible refine AW.d0reg envOk mixed ?_ ?_ fun K hK => ?_; (first | rfl | exact base_len | exact base_len0); kernel_rfl)
        | (with_reducible refine AW.d0 envOk mixed ?_ ?_ fun K hK => ?_; (first | rfl | exact base_len | exact base_len0); kernel_rfl)
        | (with_reducible refine vcD_nil ?_)
        | (with_reducible refine vcD_cons fun K' hK' => ?_; simp only [vAppend, elems, ↓reduceDIte, List.take_length, Nat.le_refl, List.drop_zero, vGuard, undef, Bool.not_eq_eq_eq_not, dstOk, vcOp, vcF, isPure, putS, vcCall, St.ev, St.put, lk, AVal.ofVal, initS, Nat.reduceLT, true_and, and_true, vBin, vUn, vPick, vConv, vPart, vLoad, vStore, vIdxA, vIdx, vFldA, vExt, vLen, vMin, vNil, vAlloc, vBox, vBuild, vBuildSl, vMake, vSlice, bnd, partsA, fillA, decAll, AVal.flat, AVal.cell, cellsOk, setRange, ETy.enc, ETy.dec, ETy.sz, ETy.d, cond, Nat.reduceBEq, Nat.reduceAdd, Int.toNat_natCast, List.length_set, List.length_append, List.length_replicate, List.length_take, Nat.reduceSub, Nat.reduceEqDiff, get_loc, setBox_loc, next_eq, List.length_cons, List.length_nil, List.map_cons, List.map_nil, List.append_nil, List.nil_append, List.cons_append, List.set_cons_zero, List.set_cons_succ, getD_zero, getD_succ, List.getElem?_cons_succ, List.getElem?_cons_zero, List.take_succ_cons, List.take_zero, List.drop_succ_cons, List.drop_zero, List.all_cons, List.all_nil, Bool.and_true, Bool.true_and, Option.bind_some, Option.map_some, Option.map_none, decide_eq_true_eq, decide_eq_false_iff_not, ne_eq, Bool.not_eq_true, Bool.not_eq_false, Decidable.not_not, not_true_eq_false, not_false_eq_true, forall_const, false_implies, Bool.true_eq_false, Bool.false_eq_true, reduceCtorEq, decide_true, decide_false, Bool.not_true, Bool.not_false, if_true, if_false, Nat.zero_add, Nat.lt_irrefl, Value.oneCell', gt_iff_lt, Nat.reduceLeDiff, Nat.lt_add_one, List.length_append, vMakeMap, vLookup, vMapUpd, vMapEnt, vEntSt, vRange, vEntry, KK.of, KK.av, lkRes, entry_last, vvar_2, vzero_2, vknd_2, vsn_2, vvar_3, vzero_3, vknd_3, vsn_3, vvar_4, vzero_4, vknd_4, vsn_4, vsl_22, vkn_22, vvar_22, vzero_22, vsl_44, vkn_44, vvar_44, vzero_44, vvar_74, vzero_74, vsl_76, vkn_76, vvar_76, vzero_76, vsl_81, vkn_81, vvar_81, vzero_81, vvar_83, vzero_83, vbld_83, vsl_84, vkn_84, vvar_84, vzero_84, vfld_83_0, vfld_83_1, vfld_83_2, hat, lA, lB]; try simp (disch := omega) only [wrap64])
        | (with_reducible refine vcL_nil ?_)
        | (with_reducible refine vcL_cons fun K' hK' => ?_; simp only [vAppend, elems, ↓reduceDIte, List.take_length, Nat.le_refl, List.drop_zero, vGuard, undef, Bool.not_eq_eq_eq_not, dstOk, vcOp, vcF, isPure, putS, vcCall, St.ev, St.put, lk, AVal.ofVal, initS, Nat.reduceLT, true_and, and_true, vBin, vUn, vPick, vConv, vPart, vLoad, vStore, vIdxA, vIdx, vFldA, vExt, vLen, vMin, vNil, vAlloc, vBox, vBuild, vBuildSl, vMake, vSlice, bnd, partsA, fillA, decAll, AVal.flat, AVal.cell, cellsOk, setRange, ETy.enc, ETy.dec, ETy.sz, ETy.d, cond, Nat.reduceBEq, Nat.reduceAdd, Int.toNat_natCast, List.length_set, List.length_append, List.length_replicate, List.length_take, Nat.reduceSub, Nat.reduceEqDiff, get_loc, setBox_loc, next_eq, List.length_cons, List.length_nil, List.map_cons, List.map_nil, List.append_nil, List.nil_append, List.cons_append, List.set_cons_zero, List.set_cons_succ, getD_zero, getD_succ, List.getElem?_cons_succ, List.getElem?_cons_zero, List.take_succ_cons, List.take_zero, List.drop_succ_cons, List.drop_zero, List.all_cons, List.all_nil, Bool.and_true, Bool.true_and, Option.bind_some, Option.map_some, Option.map_none, decide_eq_true_eq, decide_eq_false_iff_not, ne_eq, Bool.not_eq_true, Bool.not_eq_false, Decidable.not_not, not_true_eq_false, not_false_eq_true, forall_const, false_implies, Bool.true_eq_false, Bool.false_eq_true, reduceCtorEq, decide_true, decide_false, Bool.not_true, Bool.not_false, if_true, if_false, Nat.zero_add, Nat.lt_irrefl, Value.oneCell', gt_iff_lt, Nat.reduceLeDiff, Nat.lt_add_one, List.length_append, vMakeMap, vLookup, vMapUpd, vMapEnt, vEntSt, vRange, vEntry, KK.of, KK.av, lkRes, entry_last, vvar_2, vzero_2, vknd_2, vsn_2, vvar_3, vzero_3, vknd_3, vsn_3, vvar_4, vzero_4, vknd_4, vsn_4, vsl_22, vkn_22, vvar_22, vzero_22, vsl_44, vkn_44, vvar_44, vzero_44, vvar_74, vzero_74, vsl_76, vkn_76, vvar_76, vzero_76, vsl_81, vkn_81, vvar_81, vzero_81, vvar_83, vzero_83, vbld_83, vsl_84, vkn_84, vvar_84, vzero_84, vfld_83_0, vfld_83_1, vfld_83_2, hat, lA, lB]; try simp (disch := omega) only [wrap64])
        | (with_reducible refine hK' _ ?_; clear hK' K')
        | (with_reducible refine hK _ ?_; clear hK K)
        | (with_reducible refine And.intro (And.intro rfl rfl) ?_)
        | (with_reducible refine And.intro (by omega) ?_)
        | (with_reducible refine And.intro (fun hg => ?_) (fun hg => ?_) <;> first | simp only [eq_false hg, decide_true, decide_false, and_true, true_and, and_false, false_and, not_true_eq_false, not_false_eq_true] | simp only [eq_true hg, decide_true, decide_false, and_true, true_and, and_false, false_and, not_true_eq_false, not_false_eq_true] | simp only [hg, decide_true, decide_false, and_true, true_and, and_false, false_and, not_true_eq_false, not_false_eq_true])
        | (with_reducible refine And.intro rfl (And.intro rfl rfl))
        | (with_reducible refine thenQ_n ?_)
        | (with_reducible refine thenQ_exit ?_)
        | (with_reducible refine thenQ_ret ?_)
        | (with_reducible refine midQ_ret ?_)
        | (with_reducible refine midQ_exit ?_)
        | (with_reducible refine blockQ_same ?_)
        | (with_reducible refine blockQ_ret ?_)
        | (with_reducible refine blockQ_n ?_)
        | (with_reducible refine AW.exit ?_)
        | (with_reducible refine AW.block ?_)
        | (with_reducible refine AW.cond_t rfl ?_)
        | (with_reducible refine AW.cond_f rfl ?_)
        | (with_reducible refine AW.cond_dec rfl (fun hc => ?_) (fun hc => ?_))
        | (with_reducible refine AW.cond rfl (fun hc => ?_) (fun hc => ?_) <;> try simp only [Bool.not_eq_eq_eq_not, Bool.not_true, Bool.not_false, decide_eq_true_eq, decide_eq_false_iff_not] at hc)
        | (with_reducible refine AW.seq ?_)
        | (with_reducible refine AW.skip ?_)
        | (with_reducible refine AW.ret ?_)
        | (with_reducible refine And.intro ?_ ?_)
        | (with_reducible intro hg; first | simp only [eq_false hg, decide_true, decide_false, and_true, true_and, and_false, false_and, not_true_eq_false, not_false_eq_true] | simp only [eq_true hg, decide_true, decide_false, and_true, true_and, and_false, false_and, not_true_eq_false, not_false_eq_true])
        | (with_reducible refine retQ_drop ?_; simp only [vRes, packRes, vLoad, vPart, lk, cond, Nat.reduceBEq, get_loc, getD_zero, getD_succ, true_and, List.length_cons, List.length_nil, Nat.reduceAdd, Nat.reduceLT, Nat.reduceLeDiff, List.take_succ_cons, List.take_zero, List.drop_succ_cons, List.drop_zero, vvar_2, vzero_2, vknd_2, vsn_2, vvar_3, vzero_3, vknd_3, vsn_3, vvar_4, vzero_4, vknd_4, vsn_4, vsl_22, vkn_22, vvar_22, vzero_22, vsl_44, vkn_44, vvar_44, vzero_44, vvar_74, vzero_74, vsl_76, vkn_76, vvar_76, vzero_76, vsl_81, vkn_81, vvar_81, vzero_81, vvar_83, vzero_83, vbld_83, vsl_84, vkn_84, vvar_84, vzero_84, vfld_83_0, vfld_83_1, vfld_83_2])
        )
      all_goals first
        | (obtain rfl : k = ns.length := by omega
           refine ⟨i + 1, ⟨by omega, fun j hj => ?_⟩, by omega, (Weak.slots (by repeat' first | exact trivial | exact ⟨rfl, trivial⟩ | refine ⟨rfl, ?_⟩))⟩
           by_cases e : j = i
           · subst e; exact fun q hq => hK q hq
           · exact hI j (by omega))
        | (have hkn : k < ns.length := by omega
           have hin : i < ns.length := by omega
           have eA := (hA2 i hin).2 k hkn
           have eB := (hR2 i hin).2 k hkn
           have e1 := atR_get (L := tr) hin
           have e2 := atR_get (L := tr) hkn
           first
             | (refine ⟨k + 1, ⟨by omega, fun j hj => ?_⟩, by omega, (Weak.slots (by repeat' first | exact trivial | exact ⟨rfl, trivial⟩ | refine ⟨rfl, ?_⟩))⟩
                by_cases e : j = k
                · subst e
                  unfold PairOk
                  rw [← eA, ← eB, ← e1, ← e2]
                  simp_all
                · exact hK j (by omega))
             | (refine ⟨_, _, FinOk.drop hB (Pl.ids (by (repeat' (first | exact Pl.v _ | exact Pl.junk | exact Pl.rd rfl _ | exact pl_nil | refine pl_cons ?_ ?_ | refine Pl.agg ?_ | refine Pl.tup ?_ | refine Pl.rp ?_ | refine Pl.fn ?_)); (first | done | fail))), ?_, rfl⟩
                refine v_bool ?_
                simp only [Bool.false_eq_true, false_iff]
                intro hgd
                have h9 := hgd.pairOk hin hkn
                unfold PairOk at h9
                rw [← eA, ← eB, ← e1, ← e2] at h9
                obtain ⟨h7, h8⟩ := h9
                first
                  | exact h7 ⟨by assumption, by assumption⟩
                  | exact h8 ⟨by assumption, by assumption⟩))
    · obtain rfl : i = ns.length := by omega
      refine ⟨_, _, FinOk.drop hB (Pl.ids (by (repeat' (first | exact Pl.v _ | exact Pl.junk | exact Pl.rd rfl _ | exact pl_nil | refine pl_cons ?_ ?_ | refine Pl.agg ?_ | refine Pl.tup ?_ | refine Pl.rp ?_ | refine Pl.fn ?_)); (first | done | fail))), ?_, rfl⟩
      refine v_bool ?_
      rw [decide_eq_true_eq, ← good_iff hn hT hI]
      omega
end Go.Proofs.Ytdphlhplcmjepaa

/- Texts of this seat that the law stands on, put together. No conditions. -/
import Derived.Test.YtdphlhplcmjepaaL9
section
set_option linter.unusedSimpArgs false
set_option linter.unusedVariables false
set_option maxHeartbeats 1000000
namespace Go.Proofs.Ytdphlhplcmjepaa
open Go.Eng
theorem netsTo_sorted (c : Ch) : ∀ n, (netsTo c n).Pairwise (· < ·)
  | 0 => List.Pairwise.nil
  | n + 1 => by
    unfold netsTo
    split
    · rw [List.pairwise_append]
      refine ⟨netsTo_sorted c n, by simp, fun x hx y hy => ?_⟩
      have := netsTo_mem c n x hx
      rw [List.mem_singleton.1 hy]; omega
    · exact netsTo_sorted c n
theorem nets_sorted (c : Ch) : (nets c).Pairwise (· < ·) := netsTo_sorted c 12
theorem nets_nodup (c : Ch) : (nets c).Nodup := sorted_nodup (nets_sorted c)
/-- Two nets that may not share a track. -/
def Apart (c : Ch) (x y : Int) : Prop := ¬ x = y ∧ (span c x).1 ≤ (span c y).2 ∧ (span c y).1 ≤ (span c x).2
instance (c : Ch) (x y : Int) : Decidable (Apart c x y) := by unfold Apart; exact inferInstance
/-- A relation, in rows. -/
def relRow (ns : List Int) (R : Int → Int → Prop) [∀ x y, Decidable (R x y)] (x : Int) : List Bool := ns.map fun y => decide (R x y)
def relM (ns : List Int) (R : Int → Int → Prop) [∀ x y, Decidable (R x y)] : List (List Bool) := ns.map (relRow ns R)
theorem relRow_len (ns : List Int) (R : Int → Int → Prop) [∀ x y, Decidable (R x y)] (x : Int) : (relRow ns R x).length = ns.length := by simp [relRow]
theorem relRow_get {ns : List Int} {R : Int → Int → Prop} [∀ x y, Decidable (R x y)] {x : Int} {k : Nat} (hk : k < ns.length) : (relRow ns R x).getD k false = decide (R x (ns.getD k 0)) := by
  simp [relRow, List.getD, hk]
theorem relM_len (ns : List Int) (R : Int → Int → Prop) [∀ x y, Decidable (R x y)] : (relM ns R).length = ns.length := by simp [relM]
theorem relM_get {ns : List Int} {R : Int → Int → Prop} [∀ x y, Decidable (R x y)] {k : Nat} (hk : k < ns.length) : (relM ns R).getD k [] = relRow ns R (ns.getD k 0) := by
  simp [relM, List.getD, hk]
theorem relM_snoc {ns : List Int} {R : Int → Int → Prop} [∀ x y, Decidable (R x y)] {k : Nat} (hk : k < ns.length) : (relM ns R).take (k + 1) = (relM ns R).take k ++ [relRow ns R (ns.getD k 0)] := by
  have hk' : k < (relM ns R).length := by rw [relM_len]; exact hk
  rw [List.take_add_one, List.getElem?_eq_getElem hk', ← relM_get hk]
  simp only [List.getD, List.getElem?_eq_getElem hk', Option.getD_some, Option.toList_some]
theorem relM_ok (ns : List Int) (R : Int → Int → Prop) [∀ x y, Decidable (R x y)] : RelM ns R (relM ns R) :=
  ⟨relM_len ns R, fun k hk => by
    rw [relM_get hk]
    exact ⟨relRow_len ns R _, fun j hj => by rw [relRow_get hj, decide_eq_true_eq]⟩⟩
theorem getC {H l : List ABox} {kc : Nat} {X : ABox} (h : H[kc]? = some X) : (H ++ l)[kc]? = some X := by
  rw [List.getElem?_append_left (List.getElem?_eq_some_iff.1 h).1]; exact h
theorem lentC {H : List ABox} {c : Ch} {kc : Nat} (h : H[kc]? = some (.box false [.rd (.int .i64) c.1, .rd (.int .i64) c.2])) : LentV H (.ptr 1 kc 0 0) (.rp [.rd (.int .i64) (c).1, .rd (.int .i64) (c).2] 0) := .box h rfl (fun i _ => .same _)
theorem nets57p_ac (c : Ch) (hx : c.1.length ≤ 2000000) (hy : c.2.length = c.1.length) {H : List ABox} {kc : Nat} (h : H[kc]? = some (.box false [.rd (.int .i64) c.1, .rd (.int .i64) c.2])) :
    AC Try.prog 57 [.ptr 1 kc 0 0] H (fun r H' => r = .sl 1 H.length 0 (nets c).length ∧ H' = H ++ [.row false (.int .i64) (nets c)]) := AC.lentN (args' := [.rp [.rd (.int .i64) (c).1, .rd (.int .i64) (c).2] 0]) (by simp only [killAll_length]) ⟨lentC h, trivial⟩ (by (repeat' (first | exact NoRd.v _ | exact NoRd.sl | exact NoRd.mp | exact NoRd.tup nord_nil | refine NoRd.tup ?_ | refine NoRd.agg ?_ | exact nord_nil | refine nord_cons ?_ ?_)); (first | done | fail)) (by (repeat' (first | exact nordW_nil | refine nordW_cons ?_ ?_ | exact And.intro rfl rfl | exact trivial)); (first | done | fail)) (nets57_ac c hx hy _)
theorem span54p_ac (c : Ch) (net : Int) (hx : c.1.length ≤ 2000000) (hy : c.2.length = c.1.length) {H : List ABox} {kc : Nat} (h : H[kc]? = some (.box false [.rd (.int .i64) c.1, .rd (.int .i64) c.2])) :
    AC Try.prog 54 [.ptr 1 kc 0 0, .v (.int .i64 (net))] H (fun r H' => r = .tup [.v (.int .i64 ((span c net).1)), .v (.int .i64 ((span c net).2)), .v (.bool (decide (0 ≤ (span c net).1)))] ∧ H' = H) := AC.lent0 (args' := [.rp [.rd (.int .i64) (c).1, .rd (.int .i64) (c).2] 0, .v (.int .i64 (net))]) ⟨lentC h, .same _, trivial⟩ (by (repeat' (first | exact NoRd.v _ | exact NoRd.sl | exact NoRd.mp | exact NoRd.tup nord_nil | refine NoRd.tup ?_ | refine NoRd.agg ?_ | exact nord_nil | refine nord_cons ?_ ?_)); (first | done | fail)) (span54_ac c net hx hy _)
theorem above62p_ac (c : Ch) (a b : Int) (hx : c.1.length ≤ 2000000) (hy : c.2.length = c.1.length) {H : List ABox} {kc : Nat} (h : H[kc]? = some (.box false [.rd (.int .i64) c.1, .rd (.int .i64) c.2])) :
    AC Try.prog 62 [.ptr 1 kc 0 0, .v (.int .i64 (a)), .v (.int .i64 (b))] H (fun r H' => r = .v (.bool (decide (Above c a b))) ∧ H' = H) := AC.lent0 (args' := [.rp [.rd (.int .i64) (c).1, .rd (.int .i64) (c).2] 0, .v (.int .i64 (a)), .v (.int .i64 (b))]) ⟨lentC h, .same _, .same _, trivial⟩ (by (repeat' (first | exact NoRd.v _ | exact NoRd.sl | exact NoRd.mp | exact NoRd.tup nord_nil | refine NoRd.tup ?_ | refine NoRd.agg ?_ | exact nord_nil | refine nord_cons ?_ ?_)); (first | done | fail)) (above62_ac c a b hx hy _)
/-- A row being filled. -/
def fillB (xs : List Bool) (k : Nat) : List Bool := xs.take k ++ List.replicate (xs.length - k) false
theorem fillB_len {xs : List Bool} {k : Nat} (h : k ≤ xs.length) : (fillB xs k).length = xs.length := by simp [fillB]; omega
theorem fillB_zero (xs : List Bool) : fillB xs 0 = List.replicate xs.length false := by simp [fillB]
theorem fillB_set {xs : List Bool} {k : Nat} (h : k < xs.length) {b : Bool} (hb : b = xs.getD k false) : (fillB xs k).set k b = fillB xs (k + 1) := by
  rw [hb]; exact fill_set xs false h
theorem fillB_all (xs : List Bool) : fillB xs xs.length = xs := by simp [fillB]
theorem bool_dec {b : Bool} {p : Prop} [Decidable p] (h : b = true ↔ p) : b = decide p := by
  by_cases hp : p
  · rw [decide_eq_true hp, h.2 hp]
  · rw [decide_eq_false hp]
    cases b
    · rfl
    · exact absurd (h.1 rfl) hp
theorem nodup_getD {ns : List Int} (hn : ns.Nodup) {i k : Nat} (hi : i < ns.length) (hk : k < ns.length) : ns.getD i 0 = ns.getD k 0 ↔ i = k := by
  constructor
  · intro h
    have := congrArg (pos ns) h
    rwa [get_pos hn hi, get_pos hn hk] at this
  · intro h; rw [h]
theorem fillB_done {xs : List Bool} {k : Nat} (h : k = xs.length) : fillB xs k = xs := by rw [h, fillB_all]
noncomputable def of0 (H : List ABox) (c : Ch) (kc : Nat) : St := (⟨108, [(0, .ptr 1 kc 0 0), (3, .sl 1 (H.length + 0) 0 ((nets c).length)), (4, .ptr 1 (H.length + 1) 0 0), (5, .v (.int .i64 ((0))))], H, [.row false (.int .i64) (nets c), .box false [.sl 1 (H.length + 0) 0 (nets c).length, .v (.slice none 0 0), .v (.slice none 0 0)]]⟩ : St)
noncomputable def of1 (H : List ABox) (c : Ch) (kc i : Nat) : St := (⟨108, [(0, .ptr 1 kc 0 0), (3, .sl 1 (H.length + 0) 0 ((nets c).length)), (4, .ptr 1 (H.length + 1) 0 0), (5, .v (.int .i64 ((((i + 1 : Nat) : Int)))))], H, [.row false (.int .i64) (nets c), .box false [.sl 1 (H.length + 0) 0 (nets c).length, .sl 1 (H.length + 2) 0 (i + 1), .sl 1 (H.length + 3) 0 (i + 1)], .row false .slb ((relM (nets c) (Apart c)).take (i + 1)), .row false .slb ((relM (nets c) (Above c)).take (i + 1))]⟩ : St)
noncomputable def ofS (H : List ABox) (c : Ch) (kc : Nat) : Nat → St
  | 0 => of0 H c kc
  | i + 1 => of1 H c kc i
noncomputable def ofNew (H : List ABox) (c : Ch) : List ABox := if (nets c).length = 0 then (⟨1, [], H, [.row false (.int .i64) (nets c), .box false [.sl 1 (H.length + 0) 0 (nets c).length, .v (.slice none 0 0), .v (.slice none 0 0)]]⟩ : St).loc else (⟨1, [], H, [.row false (.int .i64) (nets c), .box false [.sl 1 (H.length + 0) 0 (nets c).length, .sl 1 (H.length + 2) 0 ((nets c).length), .sl 1 (H.length + 3) 0 ((nets c).length)], .row false .slb (relM (nets c) (Apart c)), .row false .slb (relM (nets c) (Above c))]⟩ : St).loc
theorem of67N_ac (c : Ch) (hx : c.1.length ≤ 2000000) (hy : c.2.length = c.1.length) {H : List ABox} {kc : Nat} (hkc : H[kc]? = some (.box false [.rd (.int .i64) c.1, .rd (.int .i64) c.2])) : AC Try.prog 67 [.ptr 1 kc 0 0] H
    (fun r H' => r = .ptr 1 (H.length + 1) 0 0 ∧ H' = H ++ ofNew H c) := by
  have hn := nets_len c
  have hkl : kc < H.length := (List.getElem?_eq_some_iff.1 hkc).1
  refine AC.enter envOk Try.func67 rfl (by decide) Try.ntmps67 Try.results67 (by simp) fun hB => ?_
  repeat' (first | (with_reducible refine AW.dreg (id := 14) envOk mixed [(false, 0, 0), (false, 0, 0), (false, 0, 0), (false, 0, 0), (false, 0, 0), (false, 0, 0), (false, 0, 0), (false, 0, 0), (false, 0, 0), (false, 0, 0), (false, 0, 0), (false, 0, 0), (false, 0, 0), (true, 0, 0)] ?_ ?_ fun K hK => ?_; kernel_rfl; (first | rfl | exact base_len | exact base_len0)) | (with_reducible refine AW.dregion (id := 14) envOk mixed [(false, 0, 0), (false, 0, 0), (false, 0, 0), (false, 0, 0), (false, 0, 0), (false, 0, 0), (false, 0, 0), (false, 0, 0), (false, 0, 0), (false, 0, 0), (false, 0, 0), (false, 0, 0), (false, 0, 0), (true, 0, 0)] ?_ ?_ fun K hK => ?_; kernel_rfl; (first | rfl | exact base_len | exact base_len0)) | (with_reducible refine vcDr_nil ?_) | (with_reducible refine hK' _ _ _ _ _ ?_; clear hK' K') | (with_reducible refine hK _ _ ?_; clear hK K; dsimp only) | (with_reducible first | refine AW.sreg envOk fun K hK => ?_ | refine AW.region envOk fun K hK => ?_) | (with_reducible refine AW.d0reg envOk mixed ?_ ?_ fun K hK => ?_; (first | rfl | exact base_len | exact base_len0); kernel_rfl) | (with_reducible refine AW.d0 envOk mixed ?_ ?_ fun K hK => ?_; (first | rfl | exact base_len | exact base_len0); kernel_rfl) | (with_reducible first | refine vcD_nil ?_ | refine vcL_nil ?_) | (with_reducible (first | refine vcDr_cons fun K' hK' => ?_ | refine vcD_cons fun K' hK' => ?_ | refine vcL_cons fun K' hK' => ?_); simp only [isC, Bool.false_or, Bool.or_true, vAppend, elems, ↓reduceDIte, List.take_length, Nat.le_refl, List.drop_zero, vGuard, undef, Bool.not_eq_eq_eq_not, dstOk, vcOp, vcF, isPure, putS, vcCall, St.ev, St.put, lk, AVal.ofVal, initS, Nat.reduceLT, true_and, and_true, vBin, vPick, vPart, vLoad, vStore, vIdxA, vFldA, vExt, vLen, vNil, vBox, vBuild, vBuildSl, vMake, partsA, fillA, decAll, AVal.flat, AVal.cell, cellsOk, setRange, ETy.enc, ETy.dec, ETy.sz, ETy.d, cond, Nat.reduceBEq, Nat.reduceAdd, Int.toNat_natCast, List.length_set, List.length_append, List.length_replicate, List.length_take, Nat.reduceSub, Nat.reduceEqDiff, get_loc, setBox_loc, next_eq, List.length_cons, List.length_nil, List.map_cons, List.map_nil, List.append_nil, List.nil_append, List.cons_append, List.set_cons_zero, List.set_cons_succ, getD_zero, getD_succ, List.getElem?_cons_succ, List.getElem?_cons_zero, List.take_succ_cons, List.take_zero, List.drop_succ_cons, List.all_cons, List.all_nil, Bool.and_true, Bool.true_and, Option.bind_some, Option.map_some, Option.map_none, decide_eq_true_eq, decide_eq_false_iff_not, ne_eq, Bool.not_eq_true, Bool.not_eq_false, Decidable.not_not, not_true_eq_false, not_false_eq_true, forall_const, false_implies, Bool.true_eq_false, Bool.false_eq_true, reduceCtorEq, decide_true, decide_false, Bool.not_true, Bool.not_false, if_true, if_false, Nat.zero_add, Nat.lt_irrefl, Value.oneCell', gt_iff_lt, Nat.reduceLeDiff, Nat.lt_add_one, vSealSl, vvar_1, vzero_1, vvar_2, vzero_2, vknd_2, vsn_2, vvar_3, vzero_3, vknd_3, vsn_3, vvar_4, vzero_4, vknd_4, vsn_4, vsl_22, vkn_22, vvar_22, vzero_22, vvar_53, vzero_53, vvar_74, vzero_74, vsl_81, vkn_81, vvar_81, vzero_81, vvar_83, vzero_83, vbld_83, vsl_84, vkn_84, vvar_84, vzero_84, vfld_83_1, vfld_83_2, effI, loI, hiI, pendOk, pastOk, OpOK, Nat.not_lt_zero, Nat.le_zero_eq, Nat.add_eq_zero_iff, Nat.one_ne_zero, and_false, Nat.zero_le, true_implies]; try simp (disch := omega) only [wrap64]) | (with_reducible refine hK' _ ?_; clear hK' K') | (with_reducible refine hK _ ?_; clear hK K) | ((with_reducible show vCall _ (AVal.fn 57 _) _ _ _); refine vCall_newE (nets57p_ac c hx hy (getC hkc)) (by simp only [List.length_append, List.length_cons, List.length_nil, Nat.reduceAdd]; rfl) ?_) | (with_reducible first | refine And.intro (And.intro rfl rfl) ?_ | refine And.intro (by omega) ?_) | (with_reducible refine And.intro (fun hg => ?_) (fun hg => ?_) <;> first | simp only [eq_false hg, decide_true, decide_false, and_true, true_and, and_false, false_and, not_true_eq_false, not_false_eq_true] | simp only [eq_true hg, decide_true, decide_false, and_true, true_and, and_false, false_and, not_true_eq_false, not_false_eq_true] | simp only [hg, decide_true, decide_false, and_true, true_and, and_false, false_and, not_true_eq_false, not_false_eq_true]) | (with_reducible first | refine And.intro rfl (And.intro rfl rfl) | refine thenQ_n ?_ | refine thenQ_exit ?_ | refine thenQ_ret ?_ | refine midQ_ret ?_ | refine midQ_exit ?_ | refine blockQ_same ?_ | refine blockQ_ne (by decide) ?_ | refine blockQ_ret ?_ | refine blockQ_n ?_ | refine AW.exit ?_ | refine AW.block ?_ | refine AW.cond_t rfl ?_ | refine AW.cond_f rfl ?_ | refine AW.cond_dec rfl (fun hc => ?_) (fun hc => ?_)) | (with_reducible refine AW.cond rfl (fun hc => ?_) (fun hc => ?_) <;> try simp only [Bool.not_eq_eq_eq_not, Bool.not_true, Bool.not_false, decide_eq_true_eq, decide_eq_false_iff_not] at hc) | (with_reducible first | refine AW.seq ?_ | refine AW.skip ?_ | refine AW.ret ?_ | refine And.intro ?_ ?_) | (with_reducible intro hg; first | simp only [eq_false hg, decide_true, decide_false, and_true, true_and, and_false, false_and, not_true_eq_false, not_false_eq_true] | simp only [eq_true hg, decide_true, decide_false, and_true, true_and, and_false, false_and, not_true_eq_false, not_false_eq_true]) | (with_reducible refine retQ_drop ?_; simp only [vRes, packRes, vLoad, vPart, lk, cond, Nat.reduceBEq, get_loc, getD_zero, getD_succ, true_and, List.length_cons, List.length_nil, Nat.reduceAdd, Nat.reduceLT, Nat.reduceLeDiff, List.take_succ_cons, List.take_zero, List.drop_succ_cons, List.drop_zero, vvar_1, vzero_1, vvar_2, vzero_2, vknd_2, vsn_2, vvar_3, vzero_3, vknd_3, vsn_3, vvar_4, vzero_4, vknd_4, vsn_4, vsl_22, vkn_22, vvar_22, vzero_22, vvar_53, vzero_53, vvar_74, vzero_74, vsl_81, vkn_81, vvar_81, vzero_81, vvar_83, vzero_83, vbld_83, vsl_84, vkn_84, vvar_84, vzero_84, vfld_83_1, vfld_83_2]) )
  refine AW.loop (ofS H c kc) (fun i => i ≤ (nets c).length) (fun i => (nets c).length - i) 0 (Nat.zero_le _) ?_ ?_
  · unfold ofS of0
    exact (Weak.slots (by repeat' first | exact trivial | exact ⟨rfl, trivial⟩ | refine ⟨rfl, ?_⟩))
  intro i hi
  rcases i with _ | i
  · unfold ofS of0
    have mA := relM_len (nets c) (Apart c)
    have mB := relM_len (nets c) (Above c)
    have lA := relRow_len (nets c) (Apart c) ((nets c).getD 0 0)
    have lB := relRow_len (nets c) (Above c) ((nets c).getD 0 0)
    repeat' (first | (with_reducible refine AW.dreg (id := 14) envOk mixed [(false, 0, 0), (false, 0, 0), (false, 0, 0), (false, 0, 0), (false, 0, 0), (false, 0, 0), (false, 0, 0), (false, 0, 0), (false, 0, 0), (false, 0, 0), (false, 0, 0), (false, 0, 0), (false, 0, 0), (true, 0, 0)] ?_ ?_ fun K hK => ?_; kernel_rfl; (first | rfl | exact base_len | exact base_len0)) | (with_reducible refine AW.dregion (id := 14) envOk mixed [(false, 0, 0), (false, 0, 0), (false, 0, 0), (false, 0, 0), (false, 0, 0), (false, 0, 0), (false, 0, 0), (false, 0, 0), (false, 0, 0), (false, 0, 0), (false, 0, 0), (false, 0, 0), (false, 0, 0), (true, 0, 0)] ?_ ?_ fun K hK => ?_; kernel_rfl; (first | rfl | exact base_len | exact base_len0)) | (with_reducible refine vcDr_nil ?_) | (with_reducible refine hK' _ _ _ _ _ ?_; clear hK' K') | (with_reducible refine hK _ _ ?_; clear hK K; dsimp only) | (with_reducible first | refine AW.sreg envOk fun K hK => ?_ | refine AW.region envOk fun K hK => ?_) | (with_reducible refine AW.d0reg envOk mixed ?_ ?_ fun K hK => ?_; (first | rfl | exact base_len | exact base_len0); kernel_rfl) | (with_reducible refine AW.d0 envOk mixed ?_ ?_ fun K hK => ?_; (first | rfl | exact base_len | exact base_len0); kernel_rfl) | (with_reducible first | refine vcD_nil ?_ | refine vcL_nil ?_) | (with_reducible (first | refine vcDr_cons fun K' hK' => ?_ | refine vcD_cons fun K' hK' => ?_ | refine vcL_cons fun K' hK' => ?_); simp only [isC, Bool.false_or, Bool.or_true, vAppend, elems, ↓reduceDIte, List.take_length, Nat.le_refl, List.drop_zero, vGuard, undef, Bool.not_eq_eq_eq_not, dstOk, vcOp, vcF, isPure, putS, vcCall, St.ev, St.put, lk, AVal.ofVal, initS, Nat.reduceLT, true_and, and_true, vBin, vPick, vPart, vLoad, vStore, vIdxA, vFldA, vExt, vLen, vNil, vBox, vBuild, vBuildSl, vMake, partsA, fillA, decAll, AVal.flat, AVal.cell, cellsOk, setRange, ETy.enc, ETy.dec, ETy.sz, ETy.d, cond, Nat.reduceBEq, Nat.reduceAdd, Int.toNat_natCast, List.length_set, List.length_append, List.length_replicate, List.length_take, Nat.reduceSub, Nat.reduceEqDiff, get_loc, setBox_loc, next_eq, List.length_cons, List.length_nil, List.map_cons, List.map_nil, List.append_nil, List.nil_append, List.cons_append, List.set_cons_zero, List.set_cons_succ, getD_zero, getD_succ, List.getElem?_cons_succ, List.getElem?_cons_zero, List.take_succ_cons, List.take_zero, List.drop_succ_cons, List.all_cons, List.all_nil, Bool.and_true, Bool.true_and, Option.bind_some, Option.map_some, Option.map_none, decide_eq_true_eq, decide_eq_false_iff_not, ne_eq, Bool.not_eq_true, Bool.not_eq_false, Decidable.not_not, not_true_eq_false, not_false_eq_true, forall_const, false_implies, Bool.true_eq_false, Bool.false_eq_true, reduceCtorEq, decide_true, decide_false, Bool.not_true, Bool.not_false, if_true, if_false, Nat.zero_add, Nat.lt_irrefl, Value.oneCell', gt_iff_lt, Nat.reduceLeDiff, Nat.lt_add_one, vSealSl, vvar_1, vzero_1, vvar_2, vzero_2, vknd_2, vsn_2, vvar_3, vzero_3, vknd_3, vsn_3, vvar_4, vzero_4, vknd_4, vsn_4, vsl_22, vkn_22, vvar_22, vzero_22, vvar_53, vzero_53, vvar_74, vzero_74, vsl_81, vkn_81, vvar_81, vzero_81, vvar_83, vzero_83, vbld_83, vsl_84, vkn_84, vvar_84, vzero_84, vfld_83_1, vfld_83_2, effI, loI, hiI, pendOk, pastOk, OpOK, Nat.not_lt_zero, Nat.le_zero_eq, Nat.add_eq_zero_iff, Nat.one_ne_zero, and_false, Nat.zero_le, true_implies]; try simp (disch := omega) only [wrap64]) | (with_reducible refine hK' _ ?_; clear hK' K') | (with_reducible refine hK _ ?_; clear hK K) | ((with_reducible show vCall _ (AVal.fn 54 _) _ _ _); refine vCall_pure (span54p_ac c _ hx hy (getC hkc)) ?_) | ((with_reducible show vcC _ 54 _ _ _); refine vcC_pure (span54p_ac c _ hx hy (getC hkc)) ?_) | ((with_reducible show vCall _ (AVal.fn 62 _) _ _ _); refine vCall_pure (above62p_ac c _ _ hx hy (getC hkc)) ?_) | ((with_reducible show vcC _ 62 _ _ _); refine vcC_pure (above62p_ac c _ _ hx hy (getC hkc)) ?_) | (with_reducible first | refine AW.mid (x := .seq (.region 9 _ _) _) (⟨108, [(0, .ptr 1 kc 0 0), (3, .sl 1 (H.length + 0) 0 ((nets c).length)), (4, .ptr 1 (H.length + 1) 0 0), (5, .v (.int .i64 ((0)))), (6, .v (.int .i64 ((span c ((nets c).getD 0 0)).1))), (7, .v (.int .i64 ((span c ((nets c).getD 0 0)).2))), (9, .rd .bool (relRow (nets c) (Apart c) ((nets c).getD 0 0))), (10, .rd .bool (relRow (nets c) (Above c) ((nets c).getD 0 0)))], H, [.row false (.int .i64) (nets c), .box false [.sl 1 (H.length + 0) 0 (nets c).length, .v (.slice none 0 0), .v (.slice none 0 0)], .dead, .dead]⟩ : St) ?_ ?_ | refine And.intro (And.intro rfl rfl) ?_ | refine And.intro (by omega) ?_) | (with_reducible refine And.intro (fun hg => ?_) (fun hg => ?_) <;> first | simp only [eq_false hg, decide_true, decide_false, and_true, true_and, and_false, false_and, not_true_eq_false, not_false_eq_true] | simp only [eq_true hg, decide_true, decide_false, and_true, true_and, and_false, false_and, not_true_eq_false, not_false_eq_true] | simp only [hg, decide_true, decide_false, and_true, true_and, and_false, false_and, not_true_eq_false, not_false_eq_true]) | (with_reducible first | refine And.intro rfl (And.intro rfl rfl) | refine thenQ_n ?_ | refine thenQ_exit ?_ | refine thenQ_ret ?_ | refine midQ_ret ?_ | refine midQ_exit ?_ | refine blockQ_same ?_ | refine blockQ_ne (by decide) ?_ | refine blockQ_ret ?_ | refine blockQ_n ?_ | refine AW.exit ?_ | refine AW.block ?_ | refine AW.cond_t rfl ?_ | refine AW.cond_f rfl ?_ | refine AW.cond_dec rfl (fun hc => ?_) (fun hc => ?_)) | (with_reducible refine AW.cond rfl (fun hc => ?_) (fun hc => ?_) <;> try simp only [Bool.not_eq_eq_eq_not, Bool.not_true, Bool.not_false, decide_eq_true_eq, decide_eq_false_iff_not] at hc) | (with_reducible first | refine AW.seq ?_ | refine AW.skip ?_ | refine AW.ret ?_ | refine And.intro ?_ ?_) | (with_reducible intro hg; first | simp only [eq_false hg, decide_true, decide_false, and_true, true_and, and_false, false_and, not_true_eq_false, not_false_eq_true] | simp only [eq_true hg, decide_true, decide_false, and_true, true_and, and_false, false_and, not_true_eq_false, not_false_eq_true]) | (with_reducible refine retQ_drop ?_; simp only [vRes, packRes, vLoad, vPart, lk, cond, Nat.reduceBEq, get_loc, getD_zero, getD_succ, true_and, List.length_cons, List.length_nil, Nat.reduceAdd, Nat.reduceLT, Nat.reduceLeDiff, List.take_succ_cons, List.take_zero, List.drop_succ_cons, List.drop_zero, vvar_1, vzero_1, vvar_2, vzero_2, vknd_2, vsn_2, vvar_3, vzero_3, vknd_3, vsn_3, vvar_4, vzero_4, vknd_4, vsn_4, vsl_22, vkn_22, vvar_22, vzero_22, vvar_53, vzero_53, vvar_74, vzero_74, vsl_81, vkn_81, vvar_81, vzero_81, vvar_83, vzero_83, vbld_83, vsl_84, vkn_84, vvar_84, vzero_84, vfld_83_1, vfld_83_2]) )
    · refine AW.loop (fun k : Nat => (⟨108, [(0, .ptr 1 kc 0 0), (3, .sl 1 (H.length + 0) 0 ((nets c).length)), (4, .ptr 1 (H.length + 1) 0 0), (5, .v (.int .i64 ((0)))), (6, .v (.int .i64 ((span c ((nets c).getD 0 0)).1))), (7, .v (.int .i64 ((span c ((nets c).getD 0 0)).2))), (9, .sl 1 (H.length + 2) 0 ((nets c).length)), (10, .sl 1 (H.length + 3) 0 ((nets c).length)), (11, .v (.int .i64 ((k : Int))))], H, [.row false (.int .i64) (nets c), .box false [.sl 1 (H.length + 0) 0 (nets c).length, .v (.slice none 0 0), .v (.slice none 0 0)], .row false .bool (fillB (relRow (nets c) (Apart c) ((nets c).getD 0 0)) k), .row false .bool (fillB (relRow (nets c) (Above c) ((nets c).getD 0 0)) k)]⟩ : St)) (fun k => k ≤ (nets c).length) (fun k => (nets c).length - k) 0 (Nat.zero_le _) ?_ ?_
      · have e1 := fillB_zero (relRow (nets c) (Apart c) ((nets c).getD 0 0))
        have e2 := fillB_zero (relRow (nets c) (Above c) ((nets c).getD 0 0))
        rw [lA] at e1; rw [lB] at e2
        simp only [e1, e2]
        exact (Weak.slots (by repeat' first | exact trivial | exact ⟨rfl, trivial⟩ | refine ⟨rfl, ?_⟩))
      intro k hk
      have f1 := fillB_len (xs := relRow (nets c) (Apart c) ((nets c).getD 0 0)) (k := k) (by omega)
      have f2 := fillB_len (xs := relRow (nets c) (Above c) ((nets c).getD 0 0)) (k := k) (by omega)
      rw [lA] at f1; rw [lB] at f2
      repeat' (first | (with_reducible refine AW.dreg (id := 14) envOk mixed [(false, 0, 0), (false, 0, 0), (false, 0, 0), (false, 0, 0), (false, 0, 0), (false, 0, 0), (false, 0, 0), (false, 0, 0), (false, 0, 0), (false, 0, 0), (false, 0, 0), (false, 0, 0), (false, 0, 0), (true, 0, 0)] ?_ ?_ fun K hK => ?_; kernel_rfl; (first | rfl | exact base_len | exact base_len0)) | (with_reducible refine AW.dregion (id := 14) envOk mixed [(false, 0, 0), (false, 0, 0), (false, 0, 0), (false, 0, 0), (false, 0, 0), (false, 0, 0), (false, 0, 0), (false, 0, 0), (false, 0, 0), (false, 0, 0), (false, 0, 0), (false, 0, 0), (false, 0, 0), (true, 0, 0)] ?_ ?_ fun K hK => ?_; kernel_rfl; (first | rfl | exact base_len | exact base_len0)) | (with_reducible refine vcDr_nil ?_) | (with_reducible refine hK' _ _ _ _ _ ?_; clear hK' K') | (with_reducible refine hK _ _ ?_; clear hK K; dsimp only) | (with_reducible first | refine AW.sreg envOk fun K hK => ?_ | refine AW.region envOk fun K hK => ?_) | (with_reducible refine AW.d0reg envOk mixed ?_ ?_ fun K hK => ?_; (first | rfl | exact base_len | exact base_len0); kernel_rfl) | (with_reducible refine AW.d0 envOk mixed ?_ ?_ fun K hK => ?_; (first | rfl | exact base_len | exact base_len0); kernel_rfl) | (with_reducible first | refine vcD_nil ?_ | refine vcL_nil ?_) | (with_reducible (first | refine vcDr_cons fun K' hK' => ?_ | refine vcD_cons fun K' hK' => ?_ | refine vcL_cons fun K' hK' => ?_); simp only [isC, Bool.false_or, Bool.or_true, vAppend, elems, ↓reduceDIte, List.take_length, Nat.le_refl, List.drop_zero, vGuard, undef, Bool.not_eq_eq_eq_not, dstOk, vcOp, vcF, isPure, putS, vcCall, St.ev, St.put, lk, AVal.ofVal, initS, Nat.reduceLT, true_and, and_true, vBin, vPick, vPart, vLoad, vStore, vIdxA, vFldA, vExt, vLen, vNil, vBox, vBuild, vBuildSl, vMake, partsA, fillA, decAll, AVal.flat, AVal.cell, cellsOk, setRange, ETy.enc, ETy.dec, ETy.sz, ETy.d, cond, Nat.reduceBEq, Nat.reduceAdd, Int.toNat_natCast, List.length_set, List.length_append, List.length_replicate, List.length_take, Nat.reduceSub, Nat.reduceEqDiff, get_loc, setBox_loc, next_eq, List.length_cons, List.length_nil, List.map_cons, List.map_nil, List.append_nil, List.nil_append, List.cons_append, List.set_cons_zero, List.set_cons_succ, getD_zero, getD_succ, List.getElem?_cons_succ, List.getElem?_cons_zero, List.take_succ_cons, List.take_zero, List.drop_succ_cons, List.all_cons, List.all_nil, Bool.and_true, Bool.true_and, Option.bind_some, Option.map_some, Option.map_none, decide_eq_true_eq, decide_eq_false_iff_not, ne_eq, Bool.not_eq_true, Bool.not_eq_false, Decidable.not_not, not_true_eq_false, not_false_eq_true, forall_const, false_implies, Bool.true_eq_false, Bool.false_eq_true, reduceCtorEq, decide_true, decide_false, Bool.not_true, Bool.not_false, if_true, if_false, Nat.zero_add, Nat.lt_irrefl, Value.oneCell', gt_iff_lt, Nat.reduceLeDiff, Nat.lt_add_one, vSealSl, vvar_1, vzero_1, vvar_2, vzero_2, vknd_2, vsn_2, vvar_3, vzero_3, vknd_3, vsn_3, vvar_4, vzero_4, vknd_4, vsn_4, vsl_22, vkn_22, vvar_22, vzero_22, vvar_53, vzero_53, vvar_74, vzero_74, vsl_81, vkn_81, vvar_81, vzero_81, vvar_83, vzero_83, vbld_83, vsl_84, vkn_84, vvar_84, vzero_84, vfld_83_1, vfld_83_2, f1, f2, effI, loI, hiI, pendOk, pastOk, OpOK, Nat.not_lt_zero, Nat.le_zero_eq, Nat.add_eq_zero_iff, Nat.one_ne_zero, and_false, Nat.zero_le, true_implies]; try simp (disch := omega) only [wrap64]) | (with_reducible refine hK' _ ?_; clear hK' K') | (with_reducible refine hK _ ?_; clear hK K) | ((with_reducible show vCall _ (AVal.fn 54 _) _ _ _); refine vCall_pure (span54p_ac c _ hx hy (getC hkc)) ?_) | ((with_reducible show vcC _ 54 _ _ _); refine vcC_pure (span54p_ac c _ hx hy (getC hkc)) ?_) | ((with_reducible show vCall _ (AVal.fn 62 _) _ _ _); refine vCall_pure (above62p_ac c _ _ hx hy (getC hkc)) ?_) | ((with_reducible show vcC _ 62 _ _ _); refine vcC_pure (above62p_ac c _ _ hx hy (getC hkc)) ?_) | (with_reducible first | refine And.intro (And.intro rfl rfl) ?_ | refine And.intro (by omega) ?_) | (with_reducible refine And.intro (fun hg => ?_) (fun hg => ?_) <;> first | simp only [eq_false hg, decide_true, decide_false, and_true, true_and, and_false, false_and, not_true_eq_false, not_false_eq_true] | simp only [eq_true hg, decide_true, decide_false, and_true, true_and, and_false, false_and, not_true_eq_false, not_false_eq_true] | simp only [hg, decide_true, decide_false, and_true, true_and, and_false, false_and, not_true_eq_false, not_false_eq_true]) | (with_reducible first | refine And.intro rfl (And.intro rfl rfl) | refine thenQ_n ?_ | refine thenQ_exit ?_ | refine thenQ_ret ?_ | refine midQ_ret ?_ | refine midQ_exit ?_ | refine blockQ_same ?_ | refine blockQ_ne (by decide) ?_ | refine blockQ_ret ?_ | refine blockQ_n ?_ | refine AW.exit ?_ | refine AW.block ?_ | refine AW.cond_t rfl ?_ | refine AW.cond_f rfl ?_ | refine AW.cond_dec rfl (fun hc => ?_) (fun hc => ?_)) | (with_reducible refine AW.cond rfl (fun hc => ?_) (fun hc => ?_) <;> try simp only [Bool.not_eq_eq_eq_not, Bool.not_true, Bool.not_false, decide_eq_true_eq, decide_eq_false_iff_not] at hc) | (with_reducible first | refine AW.seq ?_ | refine AW.skip ?_ | refine AW.ret ?_ | refine And.intro ?_ ?_) | (with_reducible intro hg; first | simp only [eq_false hg, decide_true, decide_false, and_true, true_and, and_false, false_and, not_true_eq_false, not_false_eq_true] | simp only [eq_true hg, decide_true, decide_false, and_true, true_and, and_false, false_and, not_true_eq_false, not_false_eq_true]) | (with_reducible refine retQ_drop ?_; simp only [vRes, packRes, vLoad, vPart, lk, cond, Nat.reduceBEq, get_loc, getD_zero, getD_succ, true_and, List.length_cons, List.length_nil, Nat.reduceAdd, Nat.reduceLT, Nat.reduceLeDiff, List.take_succ_cons, List.take_zero, List.drop_succ_cons, List.drop_zero, vvar_1, vzero_1, vvar_2, vzero_2, vknd_2, vsn_2, vvar_3, vzero_3, vknd_3, vsn_3, vvar_4, vzero_4, vknd_4, vsn_4, vsl_22, vkn_22, vvar_22, vzero_22, vvar_53, vzero_53, vvar_74, vzero_74, vsl_81, vkn_81, vvar_81, vzero_81, vvar_83, vzero_83, vbld_83, vsl_84, vkn_84, vvar_84, vzero_84, vfld_83_1, vfld_83_2]) )
      all_goals first
        | (refine ⟨k + 1, by omega, by omega, ?_⟩
           have hxy := nodup_getD (nets_nodup c) (i := 0) (k := k) (by omega) (by omega)
           rw [fillB_set (xs := relRow (nets c) (Apart c) ((nets c).getD 0 0)) (by omega) ?_, fillB_set (xs := relRow (nets c) (Above c) ((nets c).getD 0 0)) (by omega) ?_]
           all_goals first
             | exact (Weak.slots (by repeat' first | exact trivial | exact ⟨rfl, trivial⟩ | refine ⟨rfl, ?_⟩))
             | exact (relRow_get (by omega)).symm
             | (rw [relRow_get (by omega)]; refine bool_dec ?_; simp only [Apart, hxy, decide_eq_true_eq, Bool.false_eq_true]; refine ⟨fun h => ?_, fun h => ?_⟩ <;> first | exact h.elim | omega))
        | (obtain rfl : k = (nets c).length := by omega
           rw [fillB_done lA.symm, fillB_done lB.symm]
           refine Weak.trans (st1 := (⟨108, [(0, .ptr 1 kc 0 0), (3, .sl 1 (H.length + 0) 0 ((nets c).length)), (4, .ptr 1 (H.length + 1) 0 0), (5, .v (.int .i64 ((0)))), (6, .v (.int .i64 ((span c ((nets c).getD 0 0)).1))), (7, .v (.int .i64 ((span c ((nets c).getD 0 0)).2))), (9, .rd .bool (relRow (nets c) (Apart c) ((nets c).getD 0 0))), (10, .sl 1 (H.length + 3) 0 ((nets c).length))], H, [.row false (.int .i64) (nets c), .box false [.sl 1 (H.length + 0) 0 (nets c).length, .v (.slice none 0 0), .v (.slice none 0 0)], .dead, .row false .bool (relRow (nets c) (Above c) ((nets c).getD 0 0))]⟩ : St)) ?_ ?_
           · refine Weak.seal 2 (e := .bool) (xs := relRow (nets c) (Apart c) ((nets c).getD 0 0)) (by simp) rfl rfl ?_ ?_
             · repeat' (first | exact trivial | exact SealB.same _ | exact SealB.dead _ | refine And.intro ?_ ?_)
             · repeat' (first | exact trivial | exact SealV.same _ | exact SealV.whole rfl lA.symm | refine And.intro ?_ ?_)
           · refine Weak.seal 3 (e := .bool) (xs := relRow (nets c) (Above c) ((nets c).getD 0 0)) (by simp) rfl rfl ?_ ?_
             · repeat' (first | exact trivial | exact SealB.same _ | exact SealB.dead _ | refine And.intro ?_ ?_)
             · repeat' (first | exact trivial | exact SealV.same _ | exact SealV.whole rfl lB.symm | refine And.intro ?_ ?_))
    ·
      repeat' (first | (with_reducible refine AW.dreg (id := 14) envOk mixed [(false, 0, 0), (false, 0, 0), (false, 0, 0), (false, 0, 0), (false, 0, 0), (false, 0, 0), (false, 0, 0), (false, 0, 0), (false, 0, 0), (false, 0, 0), (false, 0, 0), (false, 0, 0), (false, 0, 0), (true, 0, 0)] ?_ ?_ fun K hK => ?_; kernel_rfl; (first | rfl | exact base_len | exact base_len0)) | (with_reducible refine AW.dregion (id := 14) envOk mixed [(false, 0, 0), (false, 0, 0), (false, 0, 0), (false, 0, 0), (false, 0, 0), (false, 0, 0), (false, 0, 0), (false, 0, 0), (false, 0, 0), (false, 0, 0), (false, 0, 0), (false, 0, 0), (false, 0, 0), (true, 0, 0)] ?_ ?_ fun K hK => ?_; kernel_rfl; (first | rfl | exact base_len | exact base_len0)) | (with_reducible refine vcDr_nil ?_) | (with_reducible refine hK' _ _ _ _ _ ?_; clear hK' K') | (with_reducible refine hK _ _ ?_; clear hK K; dsimp only) | (with_reducible first | refine AW.sreg envOk fun K hK => ?_ | refine AW.region envOk fun K hK => ?_) | (with_reducible refine AW.d0reg envOk mixed ?_ ?_ fun K hK => ?_; (first | rfl | exact base_len | exact base_len0); kernel_rfl) | (with_reducible refine AW.d0 envOk mixed ?_ ?_ fun K hK => ?_; (first | rfl | exact base_len | exact base_len0); kernel_rfl) | (with_reducible first | refine vcD_nil ?_ | refine vcL_nil ?_) | (with_reducible (first | refine vcDr_cons fun K' hK' => ?_ | refine vcD_cons fun K' hK' => ?_ | refine vcL_cons fun K' hK' => ?_); simp only [isC, Bool.false_or, Bool.or_true, vAppend, elems, ↓reduceDIte, List.take_length, Nat.le_refl, List.drop_zero, vGuard, undef, Bool.not_eq_eq_eq_not, dstOk, vcOp, vcF, isPure, putS, vcCall, St.ev, St.put, lk, AVal.ofVal, initS, Nat.reduceLT, true_and, and_true, vBin, vPick, vPart, vLoad, vStore, vIdxA, vFldA, vExt, vLen, vNil, vBox, vBuild, vBuildSl, vMake, partsA, fillA, decAll, AVal.flat, AVal.cell, cellsOk, setRange, ETy.enc, ETy.dec, ETy.sz, ETy.d, cond, Nat.reduceBEq, Nat.reduceAdd, Int.toNat_natCast, List.length_set, List.length_append, List.length_replicate, List.length_take, Nat.reduceSub, Nat.reduceEqDiff, get_loc, setBox_loc, next_eq, List.length_cons, List.length_nil, List.map_cons, List.map_nil, List.append_nil, List.nil_append, List.cons_append, List.set_cons_zero, List.set_cons_succ, getD_zero, getD_succ, List.getElem?_cons_succ, List.getElem?_cons_zero, List.take_succ_cons, List.take_zero, List.drop_succ_cons, List.all_cons, List.all_nil, Bool.and_true, Bool.true_and, Option.bind_some, Option.map_some, Option.map_none, decide_eq_true_eq, decide_eq_false_iff_not, ne_eq, Bool.not_eq_true, Bool.not_eq_false, Decidable.not_not, not_true_eq_false, not_false_eq_true, forall_const, false_implies, Bool.true_eq_false, Bool.false_eq_true, reduceCtorEq, decide_true, decide_false, Bool.not_true, Bool.not_false, if_true, if_false, Nat.zero_add, Nat.lt_irrefl, Value.oneCell', gt_iff_lt, Nat.reduceLeDiff, Nat.lt_add_one, vSealSl, vvar_1, vzero_1, vvar_2, vzero_2, vknd_2, vsn_2, vvar_3, vzero_3, vknd_3, vsn_3, vvar_4, vzero_4, vknd_4, vsn_4, vsl_22, vkn_22, vvar_22, vzero_22, vvar_53, vzero_53, vvar_74, vzero_74, vsl_81, vkn_81, vvar_81, vzero_81, vvar_83, vzero_83, vbld_83, vsl_84, vkn_84, vvar_84, vzero_84, vfld_83_1, vfld_83_2, effI, loI, hiI, pendOk, pastOk, OpOK, Nat.not_lt_zero, Nat.le_zero_eq, Nat.add_eq_zero_iff, Nat.one_ne_zero, and_false, Nat.zero_le, true_implies]; try simp (disch := omega) only [wrap64]) | (with_reducible refine hK' _ ?_; clear hK' K') | (with_reducible refine hK _ ?_; clear hK K) | (with_reducible first | refine And.intro (And.intro rfl rfl) ?_ | refine And.intro (by omega) ?_) | (with_reducible refine And.intro (fun hg => ?_) (fun hg => ?_) <;> first | simp only [eq_false hg, decide_true, decide_false, and_true, true_and, and_false, false_and, not_true_eq_false, not_false_eq_true] | simp only [eq_true hg, decide_true, decide_false, and_true, true_and, and_false, false_and, not_true_eq_false, not_false_eq_true] | simp only [hg, decide_true, decide_false, and_true, true_and, and_false, false_and, not_true_eq_false, not_false_eq_true]) | (with_reducible first | refine And.intro rfl (And.intro rfl rfl) | refine thenQ_n ?_ | refine thenQ_exit ?_ | refine thenQ_ret ?_ | refine midQ_ret ?_ | refine midQ_exit ?_ | refine blockQ_same ?_ | refine blockQ_ne (by decide) ?_ | refine blockQ_ret ?_ | refine blockQ_n ?_ | refine AW.exit ?_ | refine AW.block ?_ | refine AW.cond_t rfl ?_ | refine AW.cond_f rfl ?_ | refine AW.cond_dec rfl (fun hc => ?_) (fun hc => ?_)) | (with_reducible refine AW.cond rfl (fun hc => ?_) (fun hc => ?_) <;> try simp only [Bool.not_eq_eq_eq_not, Bool.not_true, Bool.not_false, decide_eq_true_eq, decide_eq_false_iff_not] at hc) | (with_reducible first | refine AW.seq ?_ | refine AW.skip ?_ | refine AW.ret ?_ | refine And.intro ?_ ?_) | (with_reducible intro hg; first | simp only [eq_false hg, decide_true, decide_false, and_true, true_and, and_false, false_and, not_true_eq_false, not_false_eq_true] | simp only [eq_true hg, decide_true, decide_false, and_true, true_and, and_false, false_and, not_true_eq_false, not_false_eq_true]) | (with_reducible refine retQ_drop ?_; simp only [vRes, packRes, vLoad, vPart, lk, cond, Nat.reduceBEq, get_loc, getD_zero, getD_succ, true_and, List.length_cons, List.length_nil, Nat.reduceAdd, Nat.reduceLT, Nat.reduceLeDiff, List.take_succ_cons, List.take_zero, List.drop_succ_cons, List.drop_zero, vvar_1, vzero_1, vvar_2, vzero_2, vknd_2, vsn_2, vvar_3, vzero_3, vknd_3, vsn_3, vvar_4, vzero_4, vknd_4, vsn_4, vsl_22, vkn_22, vvar_22, vzero_22, vvar_53, vzero_53, vvar_74, vzero_74, vsl_81, vkn_81, vvar_81, vzero_81, vvar_83, vzero_83, vbld_83, vsl_84, vkn_84, vvar_84, vzero_84, vfld_83_1, vfld_83_2]) )
      refine ⟨0 + 1, by omega, by omega, ?_⟩
      show Weak _ _ (of1 H c kc 0)
      unfold of1
      rw [relM_snoc (R := Apart c) (k := 0) (by omega), relM_snoc (R := Above c) (k := 0) (by omega)]
      exact (Weak.sel [0, 1, 5, 7] hB (by decide) (by (repeat' (first | exact trivial | exact RenB.plRow rfl | exact RenB.dead _ | exact RenB.map _ _ | exact RenB.iter rfl | refine And.intro ?_ ?_ | (refine RenB.plBox ?_; (repeat' (first | exact Pl.v _ | exact Pl.junk | exact Pl.rd rfl _ | exact pl_nil | refine pl_cons ?_ ?_ | refine Pl.agg ?_ | refine Pl.tup ?_ | refine Pl.rp ?_ | refine Pl.fn ?_)); (first | done | fail)) | refine RenB.of ?_ | exact RenV.ptr rfl | exact RenV.sl rfl | exact RenV.mp rfl | exact RenV.it rfl | (refine RenV.pl ?_; (repeat' (first | exact Pl.v _ | exact Pl.junk | exact Pl.rd rfl _ | exact pl_nil | refine pl_cons ?_ ?_ | refine Pl.agg ?_ | refine Pl.tup ?_ | refine Pl.rp ?_ | refine Pl.fn ?_)); (first | done | fail)) | refine RenV.aggL ?_ | refine RenV.fnL ?_ | exact Nat.lt_of_sub_pos (by decide) | (simp; (first | done | fail)))); (first | done | fail)) (by (repeat' (first | exact trivial | exact RenV.ptr rfl | exact RenV.sl rfl | exact RenV.mp rfl | exact RenV.it rfl | exact RenV.low (.v _) | exact RenV.low (IdsLt.ptr (by assumption)) | (refine RenV.pl ?_; (repeat' (first | exact Pl.v _ | exact Pl.junk | exact Pl.rd rfl _ | exact pl_nil | refine pl_cons ?_ ?_ | refine Pl.agg ?_ | refine Pl.tup ?_ | refine Pl.rp ?_ | refine Pl.fn ?_)); (first | done | fail)) | refine RenV.fnL ?_ | refine RenV.aggL ?_ | refine And.intro ?_ ?_)); (first | done | fail)))
    · have hz : (nets c).length = 0 := by omega
      refine ⟨_, _, FinOk.keep [0, 1] (L := ofNew H c) hB (by decide) ?_ (by (repeat' (first | exact trivial | exact RenV.ptr rfl | exact RenV.sl rfl | exact RenV.mp rfl | exact RenV.it rfl | exact RenV.low (.v _) | exact RenV.low (IdsLt.ptr (by assumption)) | (refine RenV.pl ?_; (repeat' (first | exact Pl.v _ | exact Pl.junk | exact Pl.rd rfl _ | exact pl_nil | refine pl_cons ?_ ?_ | refine Pl.agg ?_ | refine Pl.tup ?_ | refine Pl.rp ?_ | refine Pl.fn ?_)); (first | done | fail)) | refine RenV.fnL ?_ | refine RenV.aggL ?_ | refine And.intro ?_ ?_)); (first | done | fail)), rfl, rfl⟩
      unfold ofNew
      rw [if_pos hz]
      exact (by (repeat' (first | exact trivial | exact RenB.plRow rfl | exact RenB.dead _ | exact RenB.map _ _ | exact RenB.iter rfl | refine And.intro ?_ ?_ | (refine RenB.plBox ?_; (repeat' (first | exact Pl.v _ | exact Pl.junk | exact Pl.rd rfl _ | exact pl_nil | refine pl_cons ?_ ?_ | refine Pl.agg ?_ | refine Pl.tup ?_ | refine Pl.rp ?_ | refine Pl.fn ?_)); (first | done | fail)) | refine RenB.of ?_ | exact RenV.ptr rfl | exact RenV.sl rfl | exact RenV.mp rfl | exact RenV.it rfl | (refine RenV.pl ?_; (repeat' (first | exact Pl.v _ | exact Pl.junk | exact Pl.rd rfl _ | exact pl_nil | refine pl_cons ?_ ?_ | refine Pl.agg ?_ | refine Pl.tup ?_ | refine Pl.rp ?_ | refine Pl.fn ?_)); (first | done | fail)) | refine RenV.aggL ?_ | refine RenV.fnL ?_ | exact Nat.lt_of_sub_pos (by decide) | (simp; (first | done | fail)))); (first | done | fail))
  · unfold ofS of1
    have mA := relM_len (nets c) (Apart c)
    have mB := relM_len (nets c) (Above c)
    have lA := relRow_len (nets c) (Apart c) ((nets c).getD (i + 1) 0)
    have lB := relRow_len (nets c) (Above c) ((nets c).getD (i + 1) 0)
    repeat' (first | (with_reducible refine AW.dreg (id := 14) envOk mixed [(false, 0, 0), (false, 0, 0), (false, 0, 0), (false, 0, 0), (false, 0, 0), (false, 0, 0), (false, 0, 0), (false, 0, 0), (false, 0, 0), (false, 0, 0), (false, 0, 0), (false, 0, 0), (false, 0, 0), (true, 0, 0)] ?_ ?_ fun K hK => ?_; kernel_rfl; (first | rfl | exact base_len | exact base_len0)) | (with_reducible refine AW.dregion (id := 14) envOk mixed [(false, 0, 0), (false, 0, 0), (false, 0, 0), (false, 0, 0), (false, 0, 0), (false, 0, 0), (false, 0, 0), (false, 0, 0), (false, 0, 0), (false, 0, 0), (false, 0, 0), (false, 0, 0), (false, 0, 0), (true, 0, 0)] ?_ ?_ fun K hK => ?_; kernel_rfl; (first | rfl | exact base_len | exact base_len0)) | (with_reducible refine vcDr_nil ?_) | (with_reducible refine hK' _ _ _ _ _ ?_; clear hK' K') | (with_reducible refine hK _ _ ?_; clear hK K; dsimp only) | (with_reducible first | refine AW.sreg envOk fun K hK => ?_ | refine AW.region envOk fun K hK => ?_) | (with_reducible refine AW.d0reg envOk mixed ?_ ?_ fun K hK => ?_; (first | rfl | exact base_len | exact base_len0); kernel_rfl) | (with_reducible refine AW.d0 envOk mixed ?_ ?_ fun K hK => ?_; (first | rfl | exact base_len | exact base_len0); kernel_rfl) | (with_reducible first | refine vcD_nil ?_ | refine vcL_nil ?_) | (with_reducible (first | refine vcDr_cons fun K' hK' => ?_ | refine vcD_cons fun K' hK' => ?_ | refine vcL_cons fun K' hK' => ?_); simp only [isC, Bool.false_or, Bool.or_true, vAppend, elems, ↓reduceDIte, List.take_length, Nat.le_refl, List.drop_zero, vGuard, undef, Bool.not_eq_eq_eq_not, dstOk, vcOp, vcF, isPure, putS, vcCall, St.ev, St.put, lk, AVal.ofVal, initS, Nat.reduceLT, true_and, and_true, vBin, vPick, vPart, vLoad, vStore, vIdxA, vFldA, vExt, vLen, vNil, vBox, vBuild, vBuildSl, vMake, partsA, fillA, decAll, AVal.flat, AVal.cell, cellsOk, setRange, ETy.enc, ETy.dec, ETy.sz, ETy.d, cond, Nat.reduceBEq, Nat.reduceAdd, Int.toNat_natCast, List.length_set, List.length_append, List.length_replicate, List.length_take, Nat.reduceSub, Nat.reduceEqDiff, get_loc, setBox_loc, next_eq, List.length_cons, List.length_nil, List.map_cons, List.map_nil, List.append_nil, List.nil_append, List.cons_append, List.set_cons_zero, List.set_cons_succ, getD_zero, getD_succ, List.getElem?_cons_succ, List.getElem?_cons_zero, List.take_succ_cons, List.take_zero, List.drop_succ_cons, List.all_cons, List.all_nil, Bool.and_true, Bool.true_and, Option.bind_some, Option.map_some, Option.map_none, decide_eq_true_eq, decide_eq_false_iff_not, ne_eq, Bool.not_eq_true, Bool.not_eq_false, Decidable.not_not, not_true_eq_false, not_false_eq_true, forall_const, false_implies, Bool.true_eq_false, Bool.false_eq_true, reduceCtorEq, decide_true, decide_false, Bool.not_true, Bool.not_false, if_true, if_false, Nat.zero_add, Nat.lt_irrefl, Value.oneCell', gt_iff_lt, Nat.reduceLeDiff, Nat.lt_add_one, vSealSl, vvar_1, vzero_1, vvar_2, vzero_2, vknd_2, vsn_2, vvar_3, vzero_3, vknd_3, vsn_3, vvar_4, vzero_4, vknd_4, vsn_4, vsl_22, vkn_22, vvar_22, vzero_22, vvar_53, vzero_53, vvar_74, vzero_74, vsl_81, vkn_81, vvar_81, vzero_81, vvar_83, vzero_83, vbld_83, vsl_84, vkn_84, vvar_84, vzero_84, vfld_83_1, vfld_83_2, effI, loI, hiI, pendOk, pastOk, OpOK, Nat.not_lt_zero, Nat.le_zero_eq, Nat.add_eq_zero_iff, Nat.one_ne_zero, and_false, Nat.zero_le, true_implies]; try simp (disch := omega) only [wrap64]) | (with_reducible refine hK' _ ?_; clear hK' K') | (with_reducible refine hK _ ?_; clear hK K) | ((with_reducible show vCall _ (AVal.fn 54 _) _ _ _); refine vCall_pure (span54p_ac c _ hx hy (getC hkc)) ?_) | ((with_reducible show vcC _ 54 _ _ _); refine vcC_pure (span54p_ac c _ hx hy (getC hkc)) ?_) | ((with_reducible show vCall _ (AVal.fn 62 _) _ _ _); refine vCall_pure (above62p_ac c _ _ hx hy (getC hkc)) ?_) | ((with_reducible show vcC _ 62 _ _ _); refine vcC_pure (above62p_ac c _ _ hx hy (getC hkc)) ?_) | (with_reducible first | refine AW.mid (x := .seq (.region 9 _ _) _) (⟨108, [(0, .ptr 1 kc 0 0), (3, .sl 1 (H.length + 0) 0 ((nets c).length)), (4, .ptr 1 (H.length + 1) 0 0), (5, .v (.int .i64 ((((i + 1 : Nat) : Int))))), (6, .v (.int .i64 ((span c ((nets c).getD (i + 1) 0)).1))), (7, .v (.int .i64 ((span c ((nets c).getD (i + 1) 0)).2))), (9, .rd .bool (relRow (nets c) (Apart c) ((nets c).getD (i + 1) 0))), (10, .rd .bool (relRow (nets c) (Above c) ((nets c).getD (i + 1) 0)))], H, [.row false (.int .i64) (nets c), .box false [.sl 1 (H.length + 0) 0 (nets c).length, .sl 1 (H.length + 2) 0 (i + 1), .sl 1 (H.length + 3) 0 (i + 1)], .row false .slb ((relM (nets c) (Apart c)).take (i + 1)), .row false .slb ((relM (nets c) (Above c)).take (i + 1)), .dead, .dead]⟩ : St) ?_ ?_ | refine And.intro (And.intro rfl rfl) ?_ | refine And.intro (by omega) ?_) | (with_reducible refine And.intro (fun hg => ?_) (fun hg => ?_) <;> first | simp only [eq_false hg, decide_true, decide_false, and_true, true_and, and_false, false_and, not_true_eq_false, not_false_eq_true] | simp only [eq_true hg, decide_true, decide_false, and_true, true_and, and_false, false_and, not_true_eq_false, not_false_eq_true] | simp only [hg, decide_true, decide_false, and_true, true_and, and_false, false_and, not_true_eq_false, not_false_eq_true]) | (with_reducible first | refine And.intro rfl (And.intro rfl rfl) | refine thenQ_n ?_ | refine thenQ_exit ?_ | refine thenQ_ret ?_ | refine midQ_ret ?_ | refine midQ_exit ?_ | refine blockQ_same ?_ | refine blockQ_ne (by decide) ?_ | refine blockQ_ret ?_ | refine blockQ_n ?_ | refine AW.exit ?_ | refine AW.block ?_ | refine AW.cond_t rfl ?_ | refine AW.cond_f rfl ?_ | refine AW.cond_dec rfl (fun hc => ?_) (fun hc => ?_)) | (with_reducible refine AW.cond rfl (fun hc => ?_) (fun hc => ?_) <;> try simp only [Bool.not_eq_eq_eq_not, Bool.not_true, Bool.not_false, decide_eq_true_eq, decide_eq_false_iff_not] at hc) | (with_reducible first | refine AW.seq ?_ | refine AW.skip ?_ | refine AW.ret ?_ | refine And.intro ?_ ?_) | (with_reducible intro hg; first | simp only [eq_false hg, decide_true, decide_false, and_true, true_and, and_false, false_and, not_true_eq_false, not_false_eq_true] | simp only [eq_true hg, decide_true, decide_false, and_true, true_and, and_false, false_and, not_true_eq_false, not_false_eq_true]) | (with_reducible refine retQ_drop ?_; simp only [vRes, packRes, vLoad, vPart, lk, cond, Nat.reduceBEq, get_loc, getD_zero, getD_succ, true_and, List.length_cons, List.length_nil, Nat.reduceAdd, Nat.reduceLT, Nat.reduceLeDiff, List.take_succ_cons, List.take_zero, List.drop_succ_cons, List.drop_zero, vvar_1, vzero_1, vvar_2, vzero_2, vknd_2, vsn_2, vvar_3, vzero_3, vknd_3, vsn_3, vvar_4, vzero_4, vknd_4, vsn_4, vsl_22, vkn_22, vvar_22, vzero_22, vvar_53, vzero_53, vvar_74, vzero_74, vsl_81, vkn_81, vvar_81, vzero_81, vvar_83, vzero_83, vbld_83, vsl_84, vkn_84, vvar_84, vzero_84, vfld_83_1, vfld_83_2]) )
    · refine AW.loop (fun k : Nat => (⟨108, [(0, .ptr 1 kc 0 0), (3, .sl 1 (H.length + 0) 0 ((nets c).length)), (4, .ptr 1 (H.length + 1) 0 0), (5, .v (.int .i64 ((((i + 1 : Nat) : Int))))), (6, .v (.int .i64 ((span c ((nets c).getD (i + 1) 0)).1))), (7, .v (.int .i64 ((span c ((nets c).getD (i + 1) 0)).2))), (9, .sl 1 (H.length + 4) 0 ((nets c).length)), (10, .sl 1 (H.length + 5) 0 ((nets c).length)), (11, .v (.int .i64 ((k : Int))))], H, [.row false (.int .i64) (nets c), .box false [.sl 1 (H.length + 0) 0 (nets c).length, .sl 1 (H.length + 2) 0 (i + 1), .sl 1 (H.length + 3) 0 (i + 1)], .row false .slb ((relM (nets c) (Apart c)).take (i + 1)), .row false .slb ((relM (nets c) (Above c)).take (i + 1)), .row false .bool (fillB (relRow (nets c) (Apart c) ((nets c).getD (i + 1) 0)) k), .row false .bool (fillB (relRow (nets c) (Above c) ((nets c).getD (i + 1) 0)) k)]⟩ : St)) (fun k => k ≤ (nets c).length) (fun k => (nets c).length - k) 0 (Nat.zero_le _) ?_ ?_
      · have e1 := fillB_zero (relRow (nets c) (Apart c) ((nets c).getD (i + 1) 0))
        have e2 := fillB_zero (relRow (nets c) (Above c) ((nets c).getD (i + 1) 0))
        rw [lA] at e1; rw [lB] at e2
        simp only [e1, e2]
        exact (Weak.slots (by repeat' first | exact trivial | exact ⟨rfl, trivial⟩ | refine ⟨rfl, ?_⟩))
      intro k hk
      have f1 := fillB_len (xs := relRow (nets c) (Apart c) ((nets c).getD (i + 1) 0)) (k := k) (by omega)
      have f2 := fillB_len (xs := relRow (nets c) (Above c) ((nets c).getD (i + 1) 0)) (k := k) (by omega)
      rw [lA] at f1; rw [lB] at f2
      repeat' (first | (with_reducible refine AW.dreg (id := 14) envOk mixed [(false, 0, 0), (false, 0, 0), (false, 0, 0), (false, 0, 0), (false, 0, 0), (false, 0, 0), (false, 0, 0), (false, 0, 0), (false, 0, 0), (false, 0, 0), (false, 0, 0), (false, 0, 0), (false, 0, 0), (true, 0, 0)] ?_ ?_ fun K hK => ?_; kernel_rfl; (first | rfl | exact base_len | exact base_len0)) | (with_reducible refine AW.dregion (id := 14) envOk mixed [(false, 0, 0), (false, 0, 0), (false, 0, 0), (false, 0, 0), (false, 0, 0), (false, 0, 0), (false, 0, 0), (false, 0, 0), (false, 0, 0), (false, 0, 0), (false, 0, 0), (false, 0, 0), (false, 0, 0), (true, 0, 0)] ?_ ?_ fun K hK => ?_; kernel_rfl; (first | rfl | exact base_len | exact base_len0)) | (with_reducible refine vcDr_nil ?_) | (with_reducible refine hK' _ _ _ _ _ ?_; clear hK' K') | (with_reducible refine hK _ _ ?_; clear hK K; dsimp only) | (with_reducible first | refine AW.sreg envOk fun K hK => ?_ | refine AW.region envOk fun K hK => ?_) | (with_reducible refine AW.d0reg envOk mixed ?_ ?_ fun K hK => ?_; (first | rfl | exact base_len | exact base_len0); kernel_rfl) | (with_reducible refine AW.d0 envOk mixed ?_ ?_ fun K hK => ?_; (first | rfl | exact base_len | exact base_len0); kernel_rfl) | (with_reducible first | refine vcD_nil ?_ | refine vcL_nil ?_) | (with_reducible (first | refine vcDr_cons fun K' hK' => ?_ | refine vcD_cons fun K' hK' => ?_ | refine vcL_cons fun K' hK' => ?_); simp only [isC, Bool.false_or, Bool.or_true, vAppend, elems, ↓reduceDIte, List.take_length, Nat.le_refl, List.drop_zero, vGuard, undef, Bool.not_eq_eq_eq_not, dstOk, vcOp, vcF, isPure, putS, vcCall, St.ev, St.put, lk, AVal.ofVal, initS, Nat.reduceLT, true_and, and_true, vBin, vPick, vPart, vLoad, vStore, vIdxA, vFldA, vExt, vLen, vNil, vBox, vBuild, vBuildSl, vMake, partsA, fillA, decAll, AVal.flat, AVal.cell, cellsOk, setRange, ETy.enc, ETy.dec, ETy.sz, ETy.d, cond, Nat.reduceBEq, Nat.reduceAdd, Int.toNat_natCast, List.length_set, List.length_append, List.length_replicate, List.length_take, Nat.reduceSub, Nat.reduceEqDiff, get_loc, setBox_loc, next_eq, List.length_cons, List.length_nil, List.map_cons, List.map_nil, List.append_nil, List.nil_append, List.cons_append, List.set_cons_zero, List.set_cons_succ, getD_zero, getD_succ, List.getElem?_cons_succ, List.getElem?_cons_zero, List.take_succ_cons, List.take_zero, List.drop_succ_cons, List.all_cons, List.all_nil, Bool.and_true, Bool.true_and, Option.bind_some, Option.map_some, Option.map_none, decide_eq_true_eq, decide_eq_false_iff_not, ne_eq, Bool.not_eq_true, Bool.not_eq_false, Decidable.not_not, not_true_eq_false, not_false_eq_true, forall_const, false_implies, Bool.true_eq_false, Bool.false_eq_true, reduceCtorEq, decide_true, decide_false, Bool.not_true, Bool.not_false, if_true, if_false, Nat.zero_add, Nat.lt_irrefl, Value.oneCell', gt_iff_lt, Nat.reduceLeDiff, Nat.lt_add_one, vSealSl, vvar_1, vzero_1, vvar_2, vzero_2, vknd_2, vsn_2, vvar_3, vzero_3, vknd_3, vsn_3, vvar_4, vzero_4, vknd_4, vsn_4, vsl_22, vkn_22, vvar_22, vzero_22, vvar_53, vzero_53, vvar_74, vzero_74, vsl_81, vkn_81, vvar_81, vzero_81, vvar_83, vzero_83, vbld_83, vsl_84, vkn_84, vvar_84, vzero_84, vfld_83_1, vfld_83_2, f1, f2, effI, loI, hiI, pendOk, pastOk, OpOK, Nat.not_lt_zero, Nat.le_zero_eq, Nat.add_eq_zero_iff, Nat.one_ne_zero, and_false, Nat.zero_le, true_implies]; try simp (disch := omega) only [wrap64]) | (with_reducible refine hK' _ ?_; clear hK' K') | (with_reducible refine hK _ ?_; clear hK K) | ((with_reducible show vCall _ (AVal.fn 54 _) _ _ _); refine vCall_pure (span54p_ac c _ hx hy (getC hkc)) ?_) | ((with_reducible show vcC _ 54 _ _ _); refine vcC_pure (span54p_ac c _ hx hy (getC hkc)) ?_) | ((with_reducible show vCall _ (AVal.fn 62 _) _ _ _); refine vCall_pure (above62p_ac c _ _ hx hy (getC hkc)) ?_) | ((with_reducible show vcC _ 62 _ _ _); refine vcC_pure (above62p_ac c _ _ hx hy (getC hkc)) ?_) | (with_reducible first | refine And.intro (And.intro rfl rfl) ?_ | refine And.intro (by omega) ?_) | (with_reducible refine And.intro (fun hg => ?_) (fun hg => ?_) <;> first | simp only [eq_false hg, decide_true, decide_false, and_true, true_and, and_false, false_and, not_true_eq_false, not_false_eq_true] | simp only [eq_true hg, decide_true, decide_false, and_true, true_and, and_false, false_and, not_true_eq_false, not_false_eq_true] | simp only [hg, decide_true, decide_false, and_true, true_and, and_false, false_and, not_true_eq_false, not_false_eq_true]) | (with_reducible first | refine And.intro rfl (And.intro rfl rfl) | refine thenQ_n ?_ | refine thenQ_exit ?_ | refine thenQ_ret ?_ | refine midQ_ret ?_ | refine midQ_exit ?_ | refine blockQ_same ?_ | refine blockQ_ne (by decide) ?_ | refine blockQ_ret ?_ | refine blockQ_n ?_ | refine AW.exit ?_ | refine AW.block ?_ | refine AW.cond_t rfl ?_ | refine AW.cond_f rfl ?_ | refine AW.cond_dec rfl (fun hc => ?_) (fun hc => ?_)) | (with_reducible refine AW.cond rfl (fun hc => ?_) (fun hc => ?_) <;> try simp only [Bool.not_eq_eq_eq_not, Bool.not_true, Bool.not_false, decide_eq_true_eq, decide_eq_false_iff_not] at hc) | (with_reducible first | refine AW.seq ?_ | refine AW.skip ?_ | refine AW.ret ?_ | refine And.intro ?_ ?_) | (with_reducible intro hg; first | simp only [eq_false hg, decide_true, decide_false, and_true, true_and, and_false, false_and, not_true_eq_false, not_false_eq_true] | simp only [eq_true hg, decide_true, decide_false, and_true, true_and, and_false, false_and, not_true_eq_false, not_false_eq_true]) | (with_reducible refine retQ_drop ?_; simp only [vRes, packRes, vLoad, vPart, lk, cond, Nat.reduceBEq, get_loc, getD_zero, getD_succ, true_and, List.length_cons, List.length_nil, Nat.reduceAdd, Nat.reduceLT, Nat.reduceLeDiff, List.take_succ_cons, List.take_zero, List.drop_succ_cons, List.drop_zero, vvar_1, vzero_1, vvar_2, vzero_2, vknd_2, vsn_2, vvar_3, vzero_3, vknd_3, vsn_3, vvar_4, vzero_4, vknd_4, vsn_4, vsl_22, vkn_22, vvar_22, vzero_22, vvar_53, vzero_53, vvar_74, vzero_74, vsl_81, vkn_81, vvar_81, vzero_81, vvar_83, vzero_83, vbld_83, vsl_84, vkn_84, vvar_84, vzero_84, vfld_83_1, vfld_83_2]) )
      all_goals first
        | (refine ⟨k + 1, by omega, by omega, ?_⟩
           have hxy := nodup_getD (nets_nodup c) (i := (i + 1)) (k := k) (by omega) (by omega)
           rw [fillB_set (xs := relRow (nets c) (Apart c) ((nets c).getD (i + 1) 0)) (by omega) ?_, fillB_set (xs := relRow (nets c) (Above c) ((nets c).getD (i + 1) 0)) (by omega) ?_]
           all_goals first
             | exact (Weak.slots (by repeat' first | exact trivial | exact ⟨rfl, trivial⟩ | refine ⟨rfl, ?_⟩))
             | exact (relRow_get (by omega)).symm
             | (rw [relRow_get (by omega)]; refine bool_dec ?_; simp only [Apart, hxy, decide_eq_true_eq, Bool.false_eq_true]; refine ⟨fun h => ?_, fun h => ?_⟩ <;> first | exact h.elim | omega))
        | (obtain rfl : k = (nets c).length := by omega
           rw [fillB_done lA.symm, fillB_done lB.symm]
           refine Weak.trans (st1 := (⟨108, [(0, .ptr 1 kc 0 0), (3, .sl 1 (H.length + 0) 0 ((nets c).length)), (4, .ptr 1 (H.length + 1) 0 0), (5, .v (.int .i64 ((((i + 1 : Nat) : Int))))), (6, .v (.int .i64 ((span c ((nets c).getD (i + 1) 0)).1))), (7, .v (.int .i64 ((span c ((nets c).getD (i + 1) 0)).2))), (9, .rd .bool (relRow (nets c) (Apart c) ((nets c).getD (i + 1) 0))), (10, .sl 1 (H.length + 5) 0 ((nets c).length))], H, [.row false (.int .i64) (nets c), .box false [.sl 1 (H.length + 0) 0 (nets c).length, .sl 1 (H.length + 2) 0 (i + 1), .sl 1 (H.length + 3) 0 (i + 1)], .row false .slb ((relM (nets c) (Apart c)).take (i + 1)), .row false .slb ((relM (nets c) (Above c)).take (i + 1)), .dead, .row false .bool (relRow (nets c) (Above c) ((nets c).getD (i + 1) 0))]⟩ : St)) ?_ ?_
           · refine Weak.seal 4 (e := .bool) (xs := relRow (nets c) (Apart c) ((nets c).getD (i + 1) 0)) (by simp) rfl rfl ?_ ?_
             · repeat' (first | exact trivial | exact SealB.same _ | exact SealB.dead _ | refine And.intro ?_ ?_)
             · repeat' (first | exact trivial | exact SealV.same _ | exact SealV.whole rfl lA.symm | refine And.intro ?_ ?_)
           · refine Weak.seal 5 (e := .bool) (xs := relRow (nets c) (Above c) ((nets c).getD (i + 1) 0)) (by simp) rfl rfl ?_ ?_
             · repeat' (first | exact trivial | exact SealB.same _ | exact SealB.dead _ | refine And.intro ?_ ?_)
             · repeat' (first | exact trivial | exact SealV.same _ | exact SealV.whole rfl lB.symm | refine And.intro ?_ ?_))
    ·
      repeat' (first | (with_reducible refine AW.dreg (id := 14) envOk mixed [(false, 0, 0), (false, 0, 0), (false, 0, 0), (false, 0, 0), (false, 0, 0), (false, 0, 0), (false, 0, 0), (false, 0, 0), (false, 0, 0), (false, 0, 0), (false, 0, 0), (false, 0, 0), (false, 0, 0), (true, 0, 0)] ?_ ?_ fun K hK => ?_; kernel_rfl; (first | rfl | exact base_len | exact base_len0)) | (with_reducible refine AW.dregion (id := 14) envOk mixed [(false, 0, 0), (false, 0, 0), (false, 0, 0), (false, 0, 0), (false, 0, 0), (false, 0, 0), (false, 0, 0), (false, 0, 0), (false, 0, 0), (false, 0, 0), (false, 0, 0), (false, 0, 0), (false, 0, 0), (true, 0, 0)] ?_ ?_ fun K hK => ?_; kernel_rfl; (first | rfl | exact base_len | exact base_len0)) | (with_reducible refine vcDr_nil ?_) | (with_reducible refine hK' _ _ _ _ _ ?_; clear hK' K') | (with_reducible refine hK _ _ ?_; clear hK K; dsimp only) | (with_reducible first | refine AW.sreg envOk fun K hK => ?_ | refine AW.region envOk fun K hK => ?_) | (with_reducible refine AW.d0reg envOk mixed ?_ ?_ fun K hK => ?_; (first | rfl | exact base_len | exact base_len0); kernel_rfl) | (with_reducible refine AW.d0 envOk mixed ?_ ?_ fun K hK => ?_; (first | rfl | exact base_len | exact base_len0); kernel_rfl) | (with_reducible first | refine vcD_nil ?_ | refine vcL_nil ?_) | (with_reducible (first | refine vcDr_cons fun K' hK' => ?_ | refine vcD_cons fun K' hK' => ?_ | refine vcL_cons fun K' hK' => ?_); simp only [isC, Bool.false_or, Bool.or_true, vAppend, elems, ↓reduceDIte, List.take_length, Nat.le_refl, List.drop_zero, vGuard, undef, Bool.not_eq_eq_eq_not, dstOk, vcOp, vcF, isPure, putS, vcCall, St.ev, St.put, lk, AVal.ofVal, initS, Nat.reduceLT, true_and, and_true, vBin, vPick, vPart, vLoad, vStore, vIdxA, vFldA, vExt, vLen, vNil, vBox, vBuild, vBuildSl, vMake, partsA, fillA, decAll, AVal.flat, AVal.cell, cellsOk, setRange, ETy.enc, ETy.dec, ETy.sz, ETy.d, cond, Nat.reduceBEq, Nat.reduceAdd, Int.toNat_natCast, List.length_set, List.length_append, List.length_replicate, List.length_take, Nat.reduceSub, Nat.reduceEqDiff, get_loc, setBox_loc, next_eq, List.length_cons, List.length_nil, List.map_cons, List.map_nil, List.append_nil, List.nil_append, List.cons_append, List.set_cons_zero, List.set_cons_succ, getD_zero, getD_succ, List.getElem?_cons_succ, List.getElem?_cons_zero, List.take_succ_cons, List.take_zero, List.drop_succ_cons, List.all_cons, List.all_nil, Bool.and_true, Bool.true_and, Option.bind_some, Option.map_some, Option.map_none, decide_eq_true_eq, decide_eq_false_iff_not, ne_eq, Bool.not_eq_true, Bool.not_eq_false, Decidable.not_not, not_true_eq_false, not_false_eq_true, forall_const, false_implies, Bool.true_eq_false, Bool.false_eq_true, reduceCtorEq, decide_true, decide_false, Bool.not_true, Bool.not_false, if_true, if_false, Nat.zero_add, Nat.lt_irrefl, Value.oneCell', gt_iff_lt, Nat.reduceLeDiff, Nat.lt_add_one, vSealSl, vvar_1, vzero_1, vvar_2, vzero_2, vknd_2, vsn_2, vvar_3, vzero_3, vknd_3, vsn_3, vvar_4, vzero_4, vknd_4, vsn_4, vsl_22, vkn_22, vvar_22, vzero_22, vvar_53, vzero_53, vvar_74, vzero_74, vsl_81, vkn_81, vvar_81, vzero_81, vvar_83, vzero_83, vbld_83, vsl_84, vkn_84, vvar_84, vzero_84, vfld_83_1, vfld_83_2, effI, loI, hiI, pendOk, pastOk, OpOK, Nat.not_lt_zero, Nat.le_zero_eq, Nat.add_eq_zero_iff, Nat.one_ne_zero, and_false, Nat.zero_le, true_implies]; try simp (disch := omega) only [wrap64]) | (with_reducible refine hK' _ ?_; clear hK' K') | (with_reducible refine hK _ ?_; clear hK K) | (with_reducible first | refine And.intro (And.intro rfl rfl) ?_ | refine And.intro (by omega) ?_) | (with_reducible refine And.intro (fun hg => ?_) (fun hg => ?_) <;> first | simp only [eq_false hg, decide_true, decide_false, and_true, true_and, and_false, false_and, not_true_eq_false, not_false_eq_true] | simp only [eq_true hg, decide_true, decide_false, and_true, true_and, and_false, false_and, not_true_eq_false, not_false_eq_true] | simp only [hg, decide_true, decide_false, and_true, true_and, and_false, false_and, not_true_eq_false, not_false_eq_true]) | (with_reducible first | refine And.intro rfl (And.intro rfl rfl) | refine thenQ_n ?_ | refine thenQ_exit ?_ | refine thenQ_ret ?_ | refine midQ_ret ?_ | refine midQ_exit ?_ | refine blockQ_same ?_ | refine blockQ_ne (by decide) ?_ | refine blockQ_ret ?_ | refine blockQ_n ?_ | refine AW.exit ?_ | refine AW.block ?_ | refine AW.cond_t rfl ?_ | refine AW.cond_f rfl ?_ | refine AW.cond_dec rfl (fun hc => ?_) (fun hc => ?_)) | (with_reducible refine AW.cond rfl (fun hc => ?_) (fun hc => ?_) <;> try simp only [Bool.not_eq_eq_eq_not, Bool.not_true, Bool.not_false, decide_eq_true_eq, decide_eq_false_iff_not] at hc) | (with_reducible first | refine AW.seq ?_ | refine AW.skip ?_ | refine AW.ret ?_ | refine And.intro ?_ ?_) | (with_reducible intro hg; first | simp only [eq_false hg, decide_true, decide_false, and_true, true_and, and_false, false_and, not_true_eq_false, not_false_eq_true] | simp only [eq_true hg, decide_true, decide_false, and_true, true_and, and_false, false_and, not_true_eq_false, not_false_eq_true]) | (with_reducible refine retQ_drop ?_; simp only [vRes, packRes, vLoad, vPart, lk, cond, Nat.reduceBEq, get_loc, getD_zero, getD_succ, true_and, List.length_cons, List.length_nil, Nat.reduceAdd, Nat.reduceLT, Nat.reduceLeDiff, List.take_succ_cons, List.take_zero, List.drop_succ_cons, List.drop_zero, vvar_1, vzero_1, vvar_2, vzero_2, vknd_2, vsn_2, vvar_3, vzero_3, vknd_3, vsn_3, vvar_4, vzero_4, vknd_4, vsn_4, vsl_22, vkn_22, vvar_22, vzero_22, vvar_53, vzero_53, vvar_74, vzero_74, vsl_81, vkn_81, vvar_81, vzero_81, vvar_83, vzero_83, vbld_83, vsl_84, vkn_84, vvar_84, vzero_84, vfld_83_1, vfld_83_2]) )
      refine ⟨(i + 1) + 1, by omega, by omega, ?_⟩
      show Weak _ _ (of1 H c kc (i + 1))
      unfold of1
      rw [relM_snoc (R := Apart c) (k := (i + 1)) (by omega), relM_snoc (R := Above c) (k := (i + 1)) (by omega)]
      simp only [List.take_take, Nat.min_self]
      exact (Weak.sel [0, 1, 7, 9] hB (by decide) (by (repeat' (first | exact trivial | exact RenB.plRow rfl | exact RenB.dead _ | exact RenB.map _ _ | exact RenB.iter rfl | refine And.intro ?_ ?_ | (refine RenB.plBox ?_; (repeat' (first | exact Pl.v _ | exact Pl.junk | exact Pl.rd rfl _ | exact pl_nil | refine pl_cons ?_ ?_ | refine Pl.agg ?_ | refine Pl.tup ?_ | refine Pl.rp ?_ | refine Pl.fn ?_)); (first | done | fail)) | refine RenB.of ?_ | exact RenV.ptr rfl | exact RenV.sl rfl | exact RenV.mp rfl | exact RenV.it rfl | (refine RenV.pl ?_; (repeat' (first | exact Pl.v _ | exact Pl.junk | exact Pl.rd rfl _ | exact pl_nil | refine pl_cons ?_ ?_ | refine Pl.agg ?_ | refine Pl.tup ?_ | refine Pl.rp ?_ | refine Pl.fn ?_)); (first | done | fail)) | refine RenV.aggL ?_ | refine RenV.fnL ?_ | exact Nat.lt_of_sub_pos (by decide) | (simp; (first | done | fail)))); (first | done | fail)) (by (repeat' (first | exact trivial | exact RenV.ptr rfl | exact RenV.sl rfl | exact RenV.mp rfl | exact RenV.it rfl | exact RenV.low (.v _) | exact RenV.low (IdsLt.ptr (by assumption)) | (refine RenV.pl ?_; (repeat' (first | exact Pl.v _ | exact Pl.junk | exact Pl.rd rfl _ | exact pl_nil | refine pl_cons ?_ ?_ | refine Pl.agg ?_ | refine Pl.tup ?_ | refine Pl.rp ?_ | refine Pl.fn ?_)); (first | done | fail)) | refine RenV.fnL ?_ | refine RenV.aggL ?_ | refine And.intro ?_ ?_)); (first | done | fail)))
    · have hz : (nets c).length = (i + 1) := by omega
      refine ⟨_, _, FinOk.keep [0, 1, 2, 3] (L := ofNew H c) hB (by decide) ?_ (by (repeat' (first | exact trivial | exact RenV.ptr rfl | exact RenV.sl rfl | exact RenV.mp rfl | exact RenV.it rfl | exact RenV.low (.v _) | exact RenV.low (IdsLt.ptr (by assumption)) | (refine RenV.pl ?_; (repeat' (first | exact Pl.v _ | exact Pl.junk | exact Pl.rd rfl _ | exact pl_nil | refine pl_cons ?_ ?_ | refine Pl.agg ?_ | refine Pl.tup ?_ | refine Pl.rp ?_ | refine Pl.fn ?_)); (first | done | fail)) | refine RenV.fnL ?_ | refine RenV.aggL ?_ | refine And.intro ?_ ?_)); (first | done | fail)), rfl, rfl⟩
      unfold ofNew
      rw [if_neg (by omega)]
      rw [show i + 1 = (nets c).length by omega, List.take_of_length_le (by rw [relM_len]; exact Nat.le_refl _), List.take_of_length_le (by rw [relM_len]; exact Nat.le_refl _)]
      exact (by (repeat' (first | exact trivial | exact RenB.plRow rfl | exact RenB.dead _ | exact RenB.map _ _ | exact RenB.iter rfl | refine And.intro ?_ ?_ | (refine RenB.plBox ?_; (repeat' (first | exact Pl.v _ | exact Pl.junk | exact Pl.rd rfl _ | exact pl_nil | refine pl_cons ?_ ?_ | refine Pl.agg ?_ | refine Pl.tup ?_ | refine Pl.rp ?_ | refine Pl.fn ?_)); (first | done | fail)) | refine RenB.of ?_ | exact RenV.ptr rfl | exact RenV.sl rfl | exact RenV.mp rfl | exact RenV.it rfl | (refine RenV.pl ?_; (repeat' (first | exact Pl.v _ | exact Pl.junk | exact Pl.rd rfl _ | exact pl_nil | refine pl_cons ?_ ?_ | refine Pl.agg ?_ | refine Pl.tup ?_ | refine Pl.rp ?_ | refine Pl.fn ?_)); (first | done | fail)) | refine RenV.aggL ?_ | refine RenV.fnL ?_ | exact Nat.lt_of_sub_pos (by decide) | (simp; (first | done | fail)))); (first | done | fail))
end Go.Proofs.Ytdphlhplcmjepaa
end
section
set_option linter.unusedSimpArgs false
set_option linter.unusedVariables false
namespace Go.Eng
variable {P : Program} {E : Env}
/-- The same boxes, parted otherwise. -/
theorem Weak.rebase {n N : Nat} {s : List (Nat × AVal)} {b l b' l' : List ABox} (h : b ++ l = b' ++ l') (hn : n ≤ b.length → n ≤ b'.length) : Weak n ⟨N, s, b, l⟩ ⟨N, s, b', l'⟩ := fun c a w hr =>
  ⟨c, .refl n c, hn hr.le, hr.rel.defers, hr.rel.size, hr.rel.slots, by
    show RelH c (b' ++ l') w
    rw [← h]; exact hr.rel.heap, rfl⟩
/-- The first of the state's own boxes is put below. -/
theorem Weak.grow {n N : Nat} {s : List (Nat × AVal)} {b l : List ABox} {X : ABox} : Weak n ⟨N, s, b, X :: l⟩ ⟨N, s, b ++ [X], l⟩ :=
  Weak.rebase (by simp) (fun h => by rw [List.length_append]; omega)
theorem FinOk.same {n N : Nat} {s : List (Nat × AVal)} {b l : List ABox} {r : AVal} : FinOk n ⟨N, s, b, l⟩ r r (b ++ l) := fun c v w hn hv hh => ⟨c, .refl _ c, hv, hh⟩
theorem BoxLt.mono {n m : Nat} {X : ABox} (h : BoxLt n X) (hm : n ≤ m) : BoxLt m X := by
  cases X with
  | dead => trivial
  | box ro cs => exact fun i hi => (h i hi).mono hm
  | row ro e xs => exact fun i j hi hj => (h i j hi hj).mono hm
  | map kk es => trivial
  | iter m' a b => exact Nat.lt_of_lt_of_le h hm
  | tab g o => trivial
theorem BaseLt.mono {n m : Nat} {H : List ABox} (h : BaseLt n H) (hm : n ≤ m) : BaseLt m H := fun k hk => (h k hk).mono hm
theorem BaseLt.app {n : Nat} {H L : List ABox} (h : BaseLt n H) (hL : ∀ X ∈ L, BoxLt n X) : BaseLt n (H ++ L) := by
  intro k hk
  simp only [List.getD]
  by_cases g : k < H.length
  · rw [List.getElem?_append_left g]; exact h k g
  · have hk' : k - H.length < L.length := by simp at hk; omega
    rw [List.getElem?_append_right (by omega), List.getElem?_eq_getElem hk']
    exact hL _ (List.getElem_mem hk')
theorem boxLt_plain {n : Nat} {ro : Bool} {e : ETy} (h : e.plain = true) (xs : List e.T) : BoxLt n (.row ro e xs) := fun i j hi hj => ETy.enc_ids e h _ j hj
/-- Lists of numbers, each in a box of its own. -/
def rowsB (xs : List (List Int)) : List ABox := xs.map fun x => .row false (.int .i64) x
theorem rowsB_len (xs : List (List Int)) : (rowsB xs).length = xs.length := by simp [rowsB]
theorem rowsB_snoc (xs : List (List Int)) (x : List Int) : rowsB (xs ++ [x]) = rowsB xs ++ [.row false (.int .i64) x] := by simp [rowsB]
theorem rowsB_nil : rowsB [] = [] := rfl
theorem rowsB_get {xs : List (List Int)} {i : Nat} (h : i < xs.length) : (rowsB xs)[i]? = some (.row false (.int .i64) (xs.getD i [])) := by
  simp [rowsB, List.getD, h]
theorem rowsB_lt (n : Nat) (xs : List (List Int)) : ∀ X ∈ rowsB xs, BoxLt n X := fun X hX => by
  obtain ⟨x, _, rfl⟩ := List.mem_map.1 hX
  exact boxLt_plain rfl x
theorem BaseLt.rows {H : List ABox} (h : BaseLt H.length H) (xs : List (List Int)) : BaseLt (H ++ rowsB xs).length (H ++ rowsB xs) :=
  (h.mono (by simp)).app (rowsB_lt _ xs)
theorem nordW_rows (xs : List (List Int)) : ∀ X ∈ rowsB xs, NoRdW X := fun X hX => by
  obtain ⟨x, _, rfl⟩ := List.mem_map.1 hX
  exact ⟨rfl, rfl⟩
theorem nordW_app {a b : List ABox} (h : ∀ Z ∈ a, NoRdW Z) (k : ∀ Z ∈ b, NoRdW Z) : ∀ Z ∈ a ++ b, NoRdW Z := fun Z hZ => by
  rcases List.mem_append.1 hZ with hZ | hZ
  · exact h Z hZ
  · exact k Z hZ
/-- All numbers in it are below m. -/
def OwnLt (m : Nat) (os : List (Option (Nat × Nat))) : Prop := ∀ i, i < os.length → ∀ p, os.getD i none = some p → p.1 < m
theorem own_ids {m : Nat} {k : IntKind} {o : Option (Nat × Nat)} (h : ∀ p, o = some p → p.1 < m) (j : Nat) (hj : j < 1) : IdsLt m (((ETy.own k).enc o).getD j .junk) := by
  obtain rfl : j = 0 := by omega
  rcases o with _ | p
  · exact .v _
  · exact .sl (h p rfl)
theorem boxLt_own {m : Nat} {ro : Bool} {k : IntKind} {os : List (Option (Nat × Nat))} (h : OwnLt m os) : BoxLt m (.row ro (.own k) os) := fun i j hi hj => own_ids (fun p hp => h i hi p hp) j hj
theorem RenB.ownKeep {m : Nat} {idx : List Nat} {ro : Bool} {k : IntKind} {os : List (Option (Nat × Nat))} (h : OwnLt m os) : RenB m idx (.row ro (.own k) os) (.row ro (.own k) os) := .low (boxLt_own h)
theorem RenB.ownSnoc {m : Nat} {idx : List Nat} {ro : Bool} {k : IntKind} {os : List (Option (Nat × Nat))} {i j len : Nat} (h : OwnLt m os) (hi : idx[j]? = some i) :
    RenB m idx (.row ro (.own k) (os ++ [some (m + j, len)])) (.row ro (.own k) (os ++ [some (m + i, len)])) := by
  refine .row (by simp) (fun q p hq hp => ?_)
  obtain rfl : p = 0 := by have : p < 1 := hp; omega
  by_cases g : q < os.length
  · have e : ∀ y : Option (Nat × Nat), (os ++ [y]).getD q none = os.getD q none := fun y => by simp only [List.getD]; rw [List.getElem?_append_left g]
    show RenV m idx (((ETy.own k).enc ((os ++ [some (m + j, len)]).getD q none)).getD 0 .junk) (((ETy.own k).enc ((os ++ [some (m + i, len)]).getD q none)).getD 0 .junk)
    rw [e, e]
    exact .low (own_ids (fun p hp => h q g p hp) 0 Nat.one_pos)
  · have e : ∀ y : Option (Nat × Nat), (os ++ [y]).getD q none = y := fun y => by
      have : q = os.length := by simp at hq; omega
      subst this
      simp [List.getD]
    show RenV m idx (((ETy.own k).enc ((os ++ [some (m + j, len)]).getD q none)).getD 0 .junk) (((ETy.own k).enc ((os ++ [some (m + i, len)]).getD q none)).getD 0 .junk)
    rw [e, e]
    exact .sl hi
/-- Where the boxes of rows stand. -/
theorem lk_row {H pre post : List ABox} {xs : List (List Int)} {i : Nat} (h : i < xs.length) : (H ++ (pre ++ (rowsB xs ++ post)))[H.length + pre.length + i]? = some (.row false (.int .i64) (xs.getD i [])) := by
  rw [← List.append_assoc, List.getElem?_append_right (by simp <;> omega), List.length_append, Nat.add_sub_cancel_left, List.getElem?_append_left (by rw [rowsB_len]; exact h), rowsB_get h]
theorem lk_own {H pre post : List ABox} {xs : List (List Int)} {X : ABox} : (H ++ (pre ++ (rowsB xs ++ (X :: post))))[H.length + (pre.length + xs.length)]? = some X := by
  rw [← List.append_assoc, ← List.append_assoc, List.getElem?_append_right (by simp [rowsB_len] <;> omega)]
  rw [show H.length + (pre.length + xs.length) - (H ++ pre ++ rowsB xs).length = 0 by simp [rowsB_len] <;> omega]
  rfl
/-- ONE'S OWN LIST GIVEN AWAY: the callee sees it sealed, and it stays so. -/
theorem AC.give {f : FuncId} {args args' : List AVal} {b l : List ABox} {R : AVal → List ABox → Prop} (j : Nat) {e : ETy} {xs : List e.T} (hj : j < l.length) (hX : l.getD j .dead = .row false e xs)
    (hl : args'.length = args.length) (ha : ∀ i, i < args.length → SealV (b.length + j) e xs (args'.getD i .junk) (args.getD i .junk))
    (h : AC P f args' (b ++ l.set j .dead) R) : AC P f args (b ++ l) R := by
  refine ⟨h.1, fun c vs w hv hh => ?_⟩
  have hst : RelSt b.length c ⟨vs.length, initS 0 args, b, l⟩ { tmps := vs.toArray, defers := [] } w := by
    refine ⟨rfl, by simp, fun t => ?_, hh, rfl⟩
    show RelV c (lk (initS 0 args) t) _
    rw [lk_initS]
    by_cases ht : 0 ≤ t ∧ t < 0 + args.length
    · rw [if_pos ht]
      have h1 : t < args.length := by omega
      have h2 := hv.2 t h1
      have h3 : vs.toArray.getD t undef = vs.getD t undef := by
        have h4 : t < vs.length := by have := hv.1; omega
        simp [h4, List.getD]
      rw [h3]; exact h2
    · rw [if_neg ht]; exact .junk _
  have hLL : ∀ (L : List ABox) (i : Nat), SealL (b.length + j) e xs (L.set i .dead) L := fun L => by
    induction L with
    | nil => exact fun i => trivial
    | cons X r ih =>
      intro i
      cases i with
      | zero =>
        refine ⟨.dead X, ?_⟩
        have same : ∀ (r : List ABox), SealL (b.length + j) e xs r r := fun r => by
          induction r with
          | nil => exact trivial
          | cons Y r ih => exact ⟨.same Y, ih⟩
        exact same r
      | succ i => exact ⟨.same X, ih i⟩
  have hSS : SealS (b.length + j) e xs (initS 0 args) (initS 0 args') := by
    have key : ∀ (m : List AVal) (q : Nat), (∀ i, i < m.length → SealV (b.length + j) e xs (m.getD i .junk) (lk (initS 0 args) (q + i))) → SealS (b.length + j) e xs (initS 0 args) (initS q m) := by
      intro m
      induction m with
      | nil => exact fun q _ => trivial
      | cons x r ih =>
        intro q hq
        refine ⟨by simpa using hq 0 (by simp), ih (q + 1) (fun i hi => ?_)⟩
        have := hq (i + 1) (by simpa using hi)
        rw [show q + 1 + i = q + (i + 1) by omega]
        exact this
    refine key args' 0 (fun i hi => ?_)
    rw [Nat.zero_add, lk_initS, if_pos ⟨Nat.zero_le _, by omega⟩, Nat.sub_zero]
    exact ha i (by omega)
  obtain ⟨c', he, hr⟩ := hst.seal j hj hX (by simp [List.getD, hj]) (hLL l j) hSS
  have hv' : RelCs c' args' vs := ⟨by rw [hl]; exact hv.1, fun i hi => by
    have := hr.slots i
    rw [show lk (initS 0 args') i = args'.getD i .junk by rw [lk_initS, if_pos ⟨Nat.zero_le _, by omega⟩, Nat.sub_zero]] at this
    have h4 : i < vs.length := by have := hv.1; omega
    have h3 : vs.toArray.getD i undef = vs.getD i undef := by simp [h4, List.getD]
    rwa [h3] at this⟩
  exact (h.2 c' vs w hv' hr.heap).mono fun en w' ⟨c2, r, v, H', h1, h2, h3, h4, h5⟩ => ⟨c2, r, v, H', he.trans h1, h2, h3, h4, h5⟩
end Go.Eng
end
section
set_option linter.unusedSimpArgs false
set_option linter.unusedVariables false
set_option maxHeartbeats 2000000
namespace Go.Proofs.Ytdphlhplcmjepaa
open Go.Eng
/-- The numbers below k that a must be above of. -/
noncomputable def gRow (c : Ch) (a k : Nat) : List Int := ((List.range k).filter fun b : Nat => decide (Above c (a : Int) (b : Int))).map fun b : Nat => (b : Int)
theorem gRow_zero (c : Ch) (a : Nat) : gRow c a 0 = [] := rfl
theorem gRow_yes {c : Ch} {a k : Nat} (h : Above c (a : Int) (k : Int)) : gRow c a (k + 1) = gRow c a k ++ [(k : Int)] := by
  unfold gRow
  rw [List.range_succ, List.filter_append, List.map_append]
  simp [h]
theorem gRow_no {c : Ch} {a k : Nat} (h : ¬ Above c (a : Int) (k : Int)) : gRow c a (k + 1) = gRow c a k := by
  unfold gRow
  rw [List.range_succ, List.filter_append, List.map_append]
  simp [h]
theorem gRow_len (c : Ch) (a k : Nat) : (gRow c a k).length ≤ k := by
  unfold gRow
  rw [List.length_map]
  exact Nat.le_trans (List.length_filter_le _ _) (by simp)
theorem gRow_mem {c : Ch} {a k : Nat} {x : Int} : x ∈ gRow c a k ↔ 0 ≤ x ∧ x < k ∧ Above c (a : Int) x := by
  unfold gRow
  simp only [List.mem_map, List.mem_filter, List.mem_range, decide_eq_true_eq]
  constructor
  · rintro ⟨b, ⟨h1, h2⟩, rfl⟩; exact ⟨by omega, by omega, h2⟩
  · rintro ⟨h1, h2, h3⟩; exact ⟨x.toNat, ⟨by omega, by rwa [show ((x.toNat : Nat) : Int) = x by omega]⟩, by omega⟩
/-- The rows of the first a numbers; of all. -/
noncomputable def grTo (c : Ch) (a : Nat) : Mz := (List.range a).map fun a : Nat => gRow c a 13
noncomputable def gr (c : Ch) : Mz := grTo c 13
theorem grTo_len (c : Ch) (a : Nat) : (grTo c a).length = a := by simp [grTo]
theorem grTo_succ (c : Ch) (a : Nat) : grTo c (a + 1) = grTo c a ++ [gRow c a 13] := by simp [grTo, List.range_succ]
theorem gr_len (c : Ch) : (gr c).length = 13 := grTo_len c 13
theorem gr_get (c : Ch) {a : Nat} (h : a < 13) : (gr c).getD a [] = gRow c a 13 := by
  simp [gr, grTo, List.getD, h]
/-- The rows that are not empty. -/
def ne : Mz → Mz
  | [] => []
  | [] :: r => ne r
  | (a :: x) :: r => (a :: x) :: ne r
/-- Their numbers. -/
def refsE : Nat → Mz → List (Option (Nat × Nat))
  | _, [] => []
  | g, [] :: r => none :: refsE g r
  | g, (a :: x) :: r => some (g, x.length + 1) :: refsE (g + 1) r
theorem refsE_len : ∀ (g : Nat) (xs : Mz), (refsE g xs).length = xs.length
  | _, [] => rfl
  | g, [] :: r => by simp [refsE, refsE_len g r]
  | g, (a :: x) :: r => by simp [refsE, refsE_len (g + 1) r]
theorem ne_nil : ∀ (xs : Mz), ne (xs ++ [[]]) = ne xs
  | [] => rfl
  | [] :: r => ne_nil r
  | (a :: x) :: r => by show (a :: x) :: ne (r ++ [[]]) = _; rw [ne_nil r]; rfl
theorem ne_snoc : ∀ (xs : Mz) {y : List Int}, y ≠ [] → ne (xs ++ [y]) = ne xs ++ [y]
  | [], [], h => absurd rfl h
  | [], b :: y, _ => rfl
  | [] :: r, y, h => ne_snoc r h
  | (a :: x) :: r, y, h => by show (a :: x) :: ne (r ++ [y]) = _; rw [ne_snoc r h]; rfl
theorem refsE_nil : ∀ (g : Nat) (xs : Mz), refsE g (xs ++ [[]]) = refsE g xs ++ [none]
  | g, [] => rfl
  | g, [] :: r => by show none :: refsE g (r ++ [[]]) = _; rw [refsE_nil g r]; rfl
  | g, (a :: x) :: r => by show some (g, x.length + 1) :: refsE (g + 1) (r ++ [[]]) = _; rw [refsE_nil (g + 1) r]; rfl
theorem refsE_snoc : ∀ (g : Nat) (xs : Mz) {y : List Int}, y ≠ [] → refsE g (xs ++ [y]) = refsE g xs ++ [some (g + (ne xs).length, y.length)]
  | g, [], [], h => absurd rfl h
  | g, [], b :: y, _ => rfl
  | g, [] :: r, y, h => by show none :: refsE g (r ++ [y]) = _; rw [refsE_snoc g r h]; rfl
  | g, (a :: x) :: r, y, h => by
    show some (g, x.length + 1) :: refsE (g + 1) (r ++ [y]) = some (g, x.length + 1) :: (refsE (g + 1) r ++ [some (g + ((ne r).length + 1), y.length)])
    rw [refsE_snoc (g + 1) r h, show g + 1 + (ne r).length = g + ((ne r).length + 1) by omega]
theorem refsE_get : ∀ {g : Nat} {xs : Mz} {i : Nat}, i < xs.length → ((refsE g xs).getD i none = none ∧ xs.getD i [] = []) ∨ ∃ j, j < (ne xs).length ∧ (refsE g xs).getD i none = some (g + j, (xs.getD i []).length) ∧ (ne xs).getD j [] = xs.getD i []
  | g, [], i, h => by simp at h
  | g, [] :: r, 0, h => .inl ⟨rfl, rfl⟩
  | g, [] :: r, i + 1, h => refsE_get (g := g) (xs := r) (i := i) (by simpa using h)
  | g, (a :: x) :: r, 0, h => .inr ⟨0, by show 0 < (ne r).length + 1; omega, rfl, rfl⟩
  | g, (a :: x) :: r, i + 1, h => by
    rcases refsE_get (g := g + 1) (xs := r) (i := i) (by simpa using h) with h1 | ⟨j, h1, h2, h3⟩
    · exact .inl h1
    · refine .inr ⟨j + 1, by show j + 1 < (ne r).length + 1; omega, ?_, h3⟩
      show (refsE (g + 1) r).getD i none = some (g + (j + 1), (r.getD i []).length)
      rw [h2, show g + 1 + j = g + (j + 1) by omega]
theorem refsE_lt {g m : Nat} {xs : Mz} (h : g + (ne xs).length ≤ m) : OwnLt m (refsE g xs) := fun i hi p hp => by
  rw [refsE_len] at hi
  rcases refsE_get (g := g) hi with ⟨h1, _⟩ | ⟨j, h1, h2, _⟩
  · rw [h1] at hp; cases hp
  · rw [h2] at hp; cases hp
    show g + j < m
    omega
theorem none_lt (m n : Nat) : OwnLt m (List.replicate n none) := fun i hi p hp => by
  have hi' : i < n := by simpa using hi
  simp [List.getD, hi'] at hp
theorem OwnLt.app {m : Nat} {a b : List (Option (Nat × Nat))} (h : OwnLt m a) (k : OwnLt m b) : OwnLt m (a ++ b) := fun i hi p hp => by
  simp only [List.getD] at hp
  by_cases g : i < a.length
  · rw [List.getElem?_append_left g] at hp; exact h i g p hp
  · rw [List.getElem?_append_right (by omega)] at hp
    exact k (i - a.length) (by simp at hi; omega) p hp
theorem RenB.ownAt {m : Nat} {idx : List Nat} {ro : Bool} {k : IntKind} {p q : List (Option (Nat × Nat))} {i j len : Nat} (hp : OwnLt m p) (hq : OwnLt m q) (hi : idx[j]? = some i) :
    RenB m idx (.row ro (.own k) (p ++ some (m + j, len) :: q)) (.row ro (.own k) (p ++ some (m + i, len) :: q)) := by
  refine .row (by simp) (fun s t hs ht => ?_)
  obtain rfl : t = 0 := by have : t < 1 := ht; omega
  show RenV m idx (((ETy.own k).enc ((p ++ some (m + j, len) :: q).getD s none)).getD 0 .junk) (((ETy.own k).enc ((p ++ some (m + i, len) :: q).getD s none)).getD 0 .junk)
  rcases Nat.lt_trichotomy s p.length with g | g | g
  · have e : ∀ y : Option (Nat × Nat), (p ++ y :: q).getD s none = p.getD s none := fun y => by simp only [List.getD]; rw [List.getElem?_append_left g]
    rw [e, e]
    exact .low (own_ids (fun z hz => hp s g z hz) 0 Nat.one_pos)
  · have e : ∀ y : Option (Nat × Nat), (p ++ y :: q).getD s none = y := fun y => by subst g; simp [List.getD]
    rw [e, e]
    exact .sl hi
  · have e : ∀ y : Option (Nat × Nat), (p ++ y :: q).getD s none = q.getD (s - (p.length + 1)) none := fun y => by
      simp only [List.getD]
      rw [List.getElem?_append_right (by omega), show s - p.length = (s - (p.length + 1)) + 1 by omega, List.getElem?_cons_succ]
    rw [e, e]
    have hs' : s - (p.length + 1) < q.length := by simp at hs; omega
    exact .low (own_ids (fun z hz => hq _ hs' z hz) 0 Nat.one_pos)
theorem own_set {p q : List (Option (Nat × Nat))} {x y : Option (Nat × Nat)} {a : Nat} (h : p.length = a) : (p ++ x :: q).set a y = p ++ y :: q := by
  rw [List.set_append, if_neg (by omega), show a - p.length = 0 by omega]; rfl
theorem own_get {p q : List (Option (Nat × Nat))} {x : Option (Nat × Nat)} {a : Nat} (h : p.length = a) : (p ++ x :: q).getD a none = x := by
  subst h; simp [List.getD]
def agE (es : List ((Int × Int) × Value)) (c : Ch) : Prop := ∀ a b : Int, (getK .pt (a, b) es).getD (.bool false) = .bool (decide (Above c a b))
noncomputable def agO (c : Ch) (es : List ((Int × Int) × Value)) (H : List ABox) (g a : Nat) : St := (⟨38, [(3, .sl 1 (H.length + 0) 0 (13)), (4, .mp (H.length + 1)), (11, .v (.int .i64 (13))), (12, .v (.int .i64 ((a : Int))))], H, [.row false (.own .i64) (refsE g (grTo c a) ++ List.replicate (13 - a) none), .map .pt es]⟩ : St)
noncomputable def ag0 (c : Ch) (es : List ((Int × Int) × Value)) (H : List ABox) (g a b : Nat) : St := (⟨38, [(3, .sl 1 (H.length + 0) 0 (13)), (4, .mp (H.length + 1)), (5, .v (.int .i64 ((a : Int)))), (11, .v (.int .i64 (13))), (12, .v (.int .i64 ((a : Int)))), (16, .v (.int .i64 (13))), (17, .v (.int .i64 ((b : Int))))], H, [.row false (.own .i64) (refsE g (grTo c a) ++ none :: List.replicate (12 - a) none), .map .pt es]⟩ : St)
noncomputable def ag1 (c : Ch) (es : List ((Int × Int) × Value)) (H : List ABox) (g a b : Nat) : St := (⟨38, [(3, .sl 1 (H.length + 0) 0 (13)), (4, .mp (H.length + 1)), (5, .v (.int .i64 ((a : Int)))), (11, .v (.int .i64 (13))), (12, .v (.int .i64 ((a : Int)))), (16, .v (.int .i64 (13))), (17, .v (.int .i64 ((b : Int))))], H, [.row false (.own .i64) (refsE g (grTo c a) ++ some (H.length + 2, (gRow c a b).length) :: List.replicate (12 - a) none), .map .pt es, .row false (.int .i64) (gRow c a b)]⟩ : St)
noncomputable def agI (c : Ch) (es : List ((Int × Int) × Value)) (H : List ABox) (g a b : Nat) : St := @ite _ (gRow c a b = []) (Classical.propDecidable _) (ag0 c es H g a b) (ag1 c es H g a b)
noncomputable def agG (c : Ch) (es : List ((Int × Int) × Value)) (H : List ABox) (os : List (Option (Nat × Nat))) (x : List Int) (a : Nat) : St := (⟨38, [(3, .sl 1 (H.length + 1) 0 (13)), (4, .mp (H.length + 2)), (11, .v (.int .i64 (13))), (12, .v (.int .i64 (((a + 1 : Nat) : Int))))], H, [.row false (.int .i64) x, .row false (.own .i64) os, .map .pt es]⟩ : St)
theorem graphN_ac (c : Ch) (hx : c.1.length ≤ 2000000) (hy : c.2.length = c.1.length) (G : List ABox) : AC Try.prog 68 [.rp [.rd (.int .i64) (c).1, .rd (.int .i64) (c).2] 0] G
    (fun r H' => r = .sl 1 (G.length + (ne (gr c)).length) 0 13 ∧ H' = G ++ (rowsB (ne (gr c)) ++ [.row false (.own .i64) (refsE G.length (gr c))])) := by
  refine AC.enter envOk2 Try.func68 rfl (by decide) Try.ntmps68 Try.results68 (by simp) fun hB => ?_
  have hBG := hB
  repeat' (first | (with_reducible first | refine AW.sreg envOk2 fun K hK => ?_ | refine AW.region envOk2 fun K hK => ?_ | refine vcL_nil ?_) | (with_reducible (first | refine vcL_cons fun K' hK' => ?_); simp only [isC, Bool.false_or, Bool.or_true, vAppend, elems, ↓reduceDIte, List.take_length, Nat.le_refl, List.drop_zero, vGuard, undef, Bool.not_eq_eq_eq_not, dstOk, vcOp, vcF, isPure, putS, vcCall, St.ev, St.put, lk, AVal.ofVal, initS, Nat.reduceLT, true_and, and_true, vBin, vPart, vLoad, vStore, vIdxA, vLen, vBuild, vBuildSl, vMake, vSlice, bnd, partsA, fillA, decAll, AVal.flat, AVal.cell, cellsOk, setRange, ETy.enc, ETy.dec, ETy.sz, ETy.d, cond, Nat.reduceBEq, Nat.reduceAdd, Int.toNat_natCast, List.length_set, List.length_append, List.length_replicate, List.length_take, Nat.reduceSub, Nat.reduceEqDiff, get_loc, setBox_loc, next_eq, List.length_cons, List.length_nil, List.map_cons, List.map_nil, List.append_nil, List.nil_append, List.cons_append, List.set_cons_zero, List.set_cons_succ, getD_zero, getD_succ, List.getElem?_cons_succ, List.getElem?_cons_zero, List.take_succ_cons, List.take_zero, List.drop_succ_cons, List.all_cons, List.all_nil, Bool.and_true, Bool.true_and, Option.bind_some, Option.map_some, Option.map_none, decide_eq_true_eq, decide_eq_false_iff_not, ne_eq, Bool.not_eq_true, Bool.not_eq_false, Decidable.not_not, not_true_eq_false, not_false_eq_true, forall_const, false_implies, Bool.true_eq_false, Bool.false_eq_true, reduceCtorEq, decide_true, decide_false, Bool.not_true, Bool.not_false, if_true, if_false, Nat.zero_add, Nat.lt_irrefl, Value.oneCell', gt_iff_lt, Nat.reduceLeDiff, Nat.lt_add_one, vSealSl, vMakeMap, vLookup, vMapUpd, vMapEnt, vEntSt, vRange, vEntry, KK.of, KK.av, lkRes, entry_last, wvar_1, wzero_1, wvar_3, wzero_3, wknd_3, wsn_3, wvar_4, wzero_4, wknd_4, wsn_4, wvar_53, wzero_53, wvar_68, wzero_68, wmp_68, wzero_70, wbld_70, wsl_76, wkn_76, wvar_76, wzero_76, wsl_78, wkn_78, wvar_78, wzero_78]; try simp (disch := omega) only [wrap64]) | (with_reducible refine hK' _ ?_; clear hK' K') | (with_reducible refine hK _ ?_; clear hK K) | (with_reducible first | refine And.intro (And.intro rfl rfl) ?_ | refine And.intro (by omega) ?_) | (with_reducible refine And.intro (fun hg => ?_) (fun hg => ?_) <;> first | simp only [eq_false hg, decide_true, decide_false, and_true, true_and, and_false, false_and, not_true_eq_false, not_false_eq_true] | simp only [eq_true hg, decide_true, decide_false, and_true, true_and, and_false, false_and, not_true_eq_false, not_false_eq_true] | simp only [hg, decide_true, decide_false, and_true, true_and, and_false, false_and, not_true_eq_false, not_false_eq_true]) | (with_reducible first | refine And.intro rfl (And.intro rfl rfl) | refine thenQ_n ?_ | refine thenQ_exit ?_ | refine thenQ_ret ?_ | refine midQ_ret ?_ | refine midQ_exit ?_ | refine blockQ_same ?_ | refine blockQ_ne (by decide) ?_ | refine blockQ_ret ?_ | refine blockQ_n ?_ | refine AW.exit ?_ | refine AW.block ?_ | refine AW.cond_t rfl ?_ | refine AW.cond_f rfl ?_ | refine AW.cond_dec rfl (fun hc => ?_) (fun hc => ?_)) | (with_reducible refine AW.cond rfl (fun hc => ?_) (fun hc => ?_) <;> try simp only [Bool.not_eq_eq_eq_not, Bool.not_true, Bool.not_false, decide_eq_true_eq, decide_eq_false_iff_not] at hc) | (with_reducible first | refine AW.seq ?_ | refine AW.skip ?_ | refine AW.ret ?_ | refine And.intro ?_ ?_) | (with_reducible intro hg; first | simp only [eq_false hg, decide_true, decide_false, and_true, true_and, and_false, false_and, not_true_eq_false, not_false_eq_true] | simp only [eq_true hg, decide_true, decide_false, and_true, true_and, and_false, false_and, not_true_eq_false, not_false_eq_true]) | (with_reducible refine retQ_drop ?_; simp only [vRes, packRes, vLoad, vPart, lk, cond, Nat.reduceBEq, get_loc, getD_zero, getD_succ, true_and, List.length_cons, List.length_nil, Nat.reduceAdd, Nat.reduceLT, Nat.reduceLeDiff, List.take_succ_cons, List.take_zero, List.drop_succ_cons, List.drop_zero, wvar_1, wzero_1, wvar_3, wzero_3, wknd_3, wsn_3, wvar_4, wzero_4, wknd_4, wsn_4, wvar_53, wzero_53, wvar_68, wzero_68, wmp_68, wzero_70, wbld_70, wsl_76, wkn_76, wvar_76, wzero_76, wsl_78, wkn_78, wvar_78, wzero_78]) )
  refine vCall_exN (AC.lentEx (F' := fun _ => .mp (G.length + 1)) (fun x => by simp only [killAll_length, List.length_append, List.length_cons, List.length_nil, Nat.reduceAdd]) (by (repeat' (first | exact trivial | exact LentV.rowL rfl rfl rfl | exact LentV.rowL rfl rfl (by assumption) | refine LentV.boxL rfl ?_ | exact LentV.nil _ | exact LentV.same _ | refine LentV.aggL ?_ | refine And.intro ?_ ?_)); (first | done | fail)) (fun x _ => (by (repeat' (first | exact NoRd.v _ | exact NoRd.sl | exact NoRd.mp | exact NoRd.tup nord_nil | refine NoRd.tup ?_ | refine NoRd.agg ?_ | exact nord_nil | refine nord_cons ?_ ?_)); (first | done | fail))) (fun x _ => (by (repeat' (first | exact nordW_nil | refine nordW_cons ?_ ?_ | exact And.intro rfl rfl | exact trivial)); (first | done | fail))) (above63_ac c hx hy _)) (fun es hes => ?_)
  have hes : agE es c := hes
  repeat' (first | (with_reducible first | refine AW.sreg envOk2 fun K hK => ?_ | refine AW.region envOk2 fun K hK => ?_ | refine vcL_nil ?_) | (with_reducible (first | refine vcL_cons fun K' hK' => ?_); simp only [isC, Bool.false_or, Bool.or_true, vAppend, elems, ↓reduceDIte, List.take_length, Nat.le_refl, List.drop_zero, vGuard, undef, Bool.not_eq_eq_eq_not, dstOk, vcOp, vcF, isPure, putS, vcCall, St.ev, St.put, lk, AVal.ofVal, initS, Nat.reduceLT, true_and, and_true, vBin, vPart, vLoad, vStore, vIdxA, vLen, vBuild, vBuildSl, vMake, vSlice, bnd, partsA, fillA, decAll, AVal.flat, AVal.cell, cellsOk, setRange, ETy.enc, ETy.dec, ETy.sz, ETy.d, cond, Nat.reduceBEq, Nat.reduceAdd, Int.toNat_natCast, List.length_set, List.length_append, List.length_replicate, List.length_take, Nat.reduceSub, Nat.reduceEqDiff, get_loc, setBox_loc, next_eq, List.length_cons, List.length_nil, List.map_cons, List.map_nil, List.append_nil, List.nil_append, List.cons_append, List.set_cons_zero, List.set_cons_succ, getD_zero, getD_succ, List.getElem?_cons_succ, List.getElem?_cons_zero, List.take_succ_cons, List.take_zero, List.drop_succ_cons, List.all_cons, List.all_nil, Bool.and_true, Bool.true_and, Option.bind_some, Option.map_some, Option.map_none, decide_eq_true_eq, decide_eq_false_iff_not, ne_eq, Bool.not_eq_true, Bool.not_eq_false, Decidable.not_not, not_true_eq_false, not_false_eq_true, forall_const, false_implies, Bool.true_eq_false, Bool.false_eq_true, reduceCtorEq, decide_true, decide_false, Bool.not_true, Bool.not_false, if_true, if_false, Nat.zero_add, Nat.lt_irrefl, Value.oneCell', gt_iff_lt, Nat.reduceLeDiff, Nat.lt_add_one, vSealSl, vMakeMap, vLookup, vMapUpd, vMapEnt, vEntSt, vRange, vEntry, KK.of, KK.av, lkRes, entry_last, wvar_1, wzero_1, wvar_3, wzero_3, wknd_3, wsn_3, wvar_4, wzero_4, wknd_4, wsn_4, wvar_53, wzero_53, wvar_68, wzero_68, wmp_68, wzero_70, wbld_70, wsl_76, wkn_76, wvar_76, wzero_76, wsl_78, wkn_78, wvar_78, wzero_78]; try simp (disch := omega) only [wrap64]) | (with_reducible refine hK' _ ?_; clear hK' K') | (with_reducible refine hK _ ?_; clear hK K) | (with_reducible first | refine And.intro (And.intro rfl rfl) ?_ | refine And.intro (by omega) ?_) | (with_reducible refine And.intro (fun hg => ?_) (fun hg => ?_) <;> first | simp only [eq_false hg, decide_true, decide_false, and_true, true_and, and_false, false_and, not_true_eq_false, not_false_eq_true] | simp only [eq_true hg, decide_true, decide_false, and_true, true_and, and_false, false_and, not_true_eq_false, not_false_eq_true] | simp only [hg, decide_true, decide_false, and_true, true_and, and_false, false_and, not_true_eq_false, not_false_eq_true]) | (with_reducible first | refine And.intro rfl (And.intro rfl rfl) | refine thenQ_n ?_ | refine thenQ_exit ?_ | refine thenQ_ret ?_ | refine midQ_ret ?_ | refine midQ_exit ?_ | refine blockQ_same ?_ | refine blockQ_ne (by decide) ?_ | refine blockQ_ret ?_ | refine blockQ_n ?_ | refine AW.exit ?_ | refine AW.block ?_ | refine AW.cond_t rfl ?_ | refine AW.cond_f rfl ?_ | refine AW.cond_dec rfl (fun hc => ?_) (fun hc => ?_)) | (with_reducible refine AW.cond rfl (fun hc => ?_) (fun hc => ?_) <;> try simp only [Bool.not_eq_eq_eq_not, Bool.not_true, Bool.not_false, decide_eq_true_eq, decide_eq_false_iff_not] at hc) | (with_reducible first | refine AW.seq ?_ | refine AW.skip ?_ | refine AW.ret ?_ | refine And.intro ?_ ?_) | (with_reducible intro hg; first | simp only [eq_false hg, decide_true, decide_false, and_true, true_and, and_false, false_and, not_true_eq_false, not_false_eq_true] | simp only [eq_true hg, decide_true, decide_false, and_true, true_and, and_false, false_and, not_true_eq_false, not_false_eq_true]) | (with_reducible refine retQ_drop ?_; simp only [vRes, packRes, vLoad, vPart, lk, cond, Nat.reduceBEq, get_loc, getD_zero, getD_succ, true_and, List.length_cons, List.length_nil, Nat.reduceAdd, Nat.reduceLT, Nat.reduceLeDiff, List.take_succ_cons, List.take_zero, List.drop_succ_cons, List.drop_zero, wvar_1, wzero_1, wvar_3, wzero_3, wknd_3, wsn_3, wvar_4, wzero_4, wknd_4, wsn_4, wvar_53, wzero_53, wvar_68, wzero_68, wmp_68, wzero_70, wbld_70, wsl_76, wkn_76, wvar_76, wzero_76, wsl_78, wkn_78, wvar_78, wzero_78]) )
  refine AW.loop (fun a : Nat => agO c es (G ++ rowsB (ne (grTo c a))) G.length a) (fun a => a ≤ 13) (fun a => 13 - a) 0 (Nat.zero_le _) ?_ ?_
  · rw [show ne (grTo c 0) = [] from rfl, rowsB_nil, List.append_nil]
    exact (Weak.slots (by repeat' first | exact trivial | exact ⟨rfl, trivial⟩ | refine ⟨rfl, ?_⟩))
  intro a ha
  obtain ⟨H, hH⟩ : ∃ H, G ++ rowsB (ne (grTo c a)) = H := ⟨_, rfl⟩
  have hHl : H.length = G.length + (ne (grTo c a)).length := by rw [← hH, List.length_append, rowsB_len]
  have hB : BaseLt H.length H := hH ▸ hBG.rows _
  rw [hH]
  unfold agO
  have hlt : OwnLt H.length (refsE G.length (grTo c a)) := refsE_lt (by omega)
  have hlr := refsE_len G.length (grTo c a)
  rw [grTo_len] at hlr
  by_cases han : a < 13
  · have hrep : List.replicate (13 - a) (none : Option (Nat × Nat)) = none :: List.replicate (12 - a) none := by rw [show 13 - a = (12 - a) + 1 by omega]; rfl
    rw [hrep]
    have hol : ∀ x : Option (Nat × Nat), (refsE G.length (grTo c a) ++ x :: List.replicate (12 - a) none).length = 13 := fun x => by simp [hlr]; omega
    repeat' (first | (with_reducible first | refine AW.sreg envOk2 fun K hK => ?_ | refine AW.region envOk2 fun K hK => ?_ | refine vcL_nil ?_) | (with_reducible (first | refine vcL_cons fun K' hK' => ?_); simp only [isC, Bool.false_or, Bool.or_true, vAppend, elems, ↓reduceDIte, List.take_length, Nat.le_refl, List.drop_zero, vGuard, undef, Bool.not_eq_eq_eq_not, dstOk, vcOp, vcF, isPure, putS, vcCall, St.ev, St.put, lk, AVal.ofVal, initS, Nat.reduceLT, true_and, and_true, vBin, vPart, vLoad, vStore, vIdxA, vLen, vBuild, vBuildSl, vMake, vSlice, bnd, partsA, fillA, decAll, AVal.flat, AVal.cell, cellsOk, setRange, ETy.enc, ETy.dec, ETy.sz, ETy.d, cond, Nat.reduceBEq, Nat.reduceAdd, Int.toNat_natCast, List.length_set, List.length_append, List.length_replicate, List.length_take, Nat.reduceSub, Nat.reduceEqDiff, get_loc, setBox_loc, next_eq, List.length_cons, List.length_nil, List.map_cons, List.map_nil, List.append_nil, List.nil_append, List.cons_append, List.set_cons_zero, List.set_cons_succ, getD_zero, getD_succ, List.getElem?_cons_succ, List.getElem?_cons_zero, List.take_succ_cons, List.take_zero, List.drop_succ_cons, List.all_cons, List.all_nil, Bool.and_true, Bool.true_and, Option.bind_some, Option.map_some, Option.map_none, decide_eq_true_eq, decide_eq_false_iff_not, ne_eq, Bool.not_eq_true, Bool.not_eq_false, Decidable.not_not, not_true_eq_false, not_false_eq_true, forall_const, false_implies, Bool.true_eq_false, Bool.false_eq_true, reduceCtorEq, decide_true, decide_false, Bool.not_true, Bool.not_false, if_true, if_false, Nat.zero_add, Nat.lt_irrefl, Value.oneCell', gt_iff_lt, Nat.reduceLeDiff, Nat.lt_add_one, vSealSl, vMakeMap, vLookup, vMapUpd, vMapEnt, vEntSt, vRange, vEntry, KK.of, KK.av, lkRes, entry_last, wvar_1, wzero_1, wvar_3, wzero_3, wknd_3, wsn_3, wvar_4, wzero_4, wknd_4, wsn_4, wvar_53, wzero_53, wvar_68, wzero_68, wmp_68, wzero_70, wbld_70, wsl_76, wkn_76, wvar_76, wzero_76, wsl_78, wkn_78, wvar_78, wzero_78, hol]; try simp (disch := omega) only [wrap64]) | (with_reducible refine hK' _ ?_; clear hK' K') | (with_reducible refine hK _ ?_; clear hK K) | (with_reducible first | refine And.intro (And.intro rfl rfl) ?_ | refine And.intro (by omega) ?_) | (with_reducible refine And.intro (fun hg => ?_) (fun hg => ?_) <;> first | simp only [eq_false hg, decide_true, decide_false, and_true, true_and, and_false, false_and, not_true_eq_false, not_false_eq_true] | simp only [eq_true hg, decide_true, decide_false, and_true, true_and, and_false, false_and, not_true_eq_false, not_false_eq_true] | simp only [hg, decide_true, decide_false, and_true, true_and, and_false, false_and, not_true_eq_false, not_false_eq_true]) | (with_reducible first | refine And.intro rfl (And.intro rfl rfl) | refine thenQ_n ?_ | refine thenQ_exit ?_ | refine thenQ_ret ?_ | refine midQ_ret ?_ | refine midQ_exit ?_ | refine blockQ_same ?_ | refine blockQ_ne (by decide) ?_ | refine blockQ_ret ?_ | refine blockQ_n ?_ | refine AW.exit ?_ | refine AW.block ?_ | refine AW.cond_t rfl ?_ | refine AW.cond_f rfl ?_ | refine AW.cond_dec rfl (fun hc => ?_) (fun hc => ?_)) | (with_reducible refine AW.cond rfl (fun hc => ?_) (fun hc => ?_) <;> try simp only [Bool.not_eq_eq_eq_not, Bool.not_true, Bool.not_false, decide_eq_true_eq, decide_eq_false_iff_not] at hc) | (with_reducible first | refine AW.seq ?_ | refine AW.skip ?_ | refine AW.ret ?_ | refine And.intro ?_ ?_) | (with_reducible intro hg; first | simp only [eq_false hg, decide_true, decide_false, and_true, true_and, and_false, false_and, not_true_eq_false, not_false_eq_true] | simp only [eq_true hg, decide_true, decide_false, and_true, true_and, and_false, false_and, not_true_eq_false, not_false_eq_true]) | (with_reducible refine retQ_drop ?_; simp only [vRes, packRes, vLoad, vPart, lk, cond, Nat.reduceBEq, get_loc, getD_zero, getD_succ, true_and, List.length_cons, List.length_nil, Nat.reduceAdd, Nat.reduceLT, Nat.reduceLeDiff, List.take_succ_cons, List.take_zero, List.drop_succ_cons, List.drop_zero, wvar_1, wzero_1, wvar_3, wzero_3, wknd_3, wsn_3, wvar_4, wzero_4, wknd_4, wsn_4, wvar_53, wzero_53, wvar_68, wzero_68, wmp_68, wzero_70, wbld_70, wsl_76, wkn_76, wvar_76, wzero_76, wsl_78, wkn_78, wvar_78, wzero_78]) )
    · refine AW.loop (fun b : Nat => agI c es H G.length a b) (fun b => b ≤ 13) (fun b => 13 - b) 0 (Nat.zero_le _) ?_ ?_
      · unfold agI
        rw [if_pos (gRow_zero c a)]
        exact (Weak.slots (by repeat' first | exact trivial | exact ⟨rfl, trivial⟩ | refine ⟨rfl, ?_⟩))
      intro b hb
      unfold agI
      have hgl := gRow_len c a b
      have hnl := none_lt H.length (12 - a)
      by_cases hbn : b < 13
      · have hk := hes (a : Int) (b : Int)
        by_cases hab : Above c (a : Int) (b : Int)
        · have hd := eq_true hab
          have hs := gRow_yes hab
          by_cases h0 : gRow c a b = []
          · rw [if_pos h0]
            unfold ag0
            have hg0 : (refsE G.length (grTo c a) ++ none :: List.replicate (12 - a) none).getD a none = none := own_get hlr
            repeat' (first | (with_reducible first | refine AW.sreg envOk2 fun K hK => ?_ | refine AW.region envOk2 fun K hK => ?_ | refine vcL_nil ?_) | (with_reducible (first | refine vcL_cons fun K' hK' => ?_); simp only [isC, Bool.false_or, Bool.or_true, vAppend, elems, ↓reduceDIte, List.take_length, Nat.le_refl, List.drop_zero, vGuard, undef, Bool.not_eq_eq_eq_not, dstOk, vcOp, vcF, isPure, putS, vcCall, St.ev, St.put, lk, AVal.ofVal, initS, Nat.reduceLT, true_and, and_true, vBin, vPart, vLoad, vStore, vIdxA, vLen, vBuild, vBuildSl, vMake, vSlice, bnd, partsA, fillA, decAll, AVal.flat, AVal.cell, cellsOk, setRange, ETy.enc, ETy.dec, ETy.sz, ETy.d, cond, Nat.reduceBEq, Nat.reduceAdd, Int.toNat_natCast, List.length_set, List.length_append, List.length_replicate, List.length_take, Nat.reduceSub, Nat.reduceEqDiff, get_loc, setBox_loc, next_eq, List.length_cons, List.length_nil, List.map_cons, List.map_nil, List.append_nil, List.nil_append, List.cons_append, List.set_cons_zero, List.set_cons_succ, getD_zero, getD_succ, List.getElem?_cons_succ, List.getElem?_cons_zero, List.take_succ_cons, List.take_zero, List.drop_succ_cons, List.all_cons, List.all_nil, Bool.and_true, Bool.true_and, Option.bind_some, Option.map_some, Option.map_none, decide_eq_true_eq, decide_eq_false_iff_not, ne_eq, Bool.not_eq_true, Bool.not_eq_false, Decidable.not_not, not_true_eq_false, not_false_eq_true, forall_const, false_implies, Bool.true_eq_false, Bool.false_eq_true, reduceCtorEq, decide_true, decide_false, Bool.not_true, Bool.not_false, if_true, if_false, Nat.zero_add, Nat.lt_irrefl, Value.oneCell', gt_iff_lt, Nat.reduceLeDiff, Nat.lt_add_one, vSealSl, vMakeMap, vLookup, vMapUpd, vMapEnt, vEntSt, vRange, vEntry, KK.of, KK.av, lkRes, entry_last, wvar_1, wzero_1, wvar_3, wzero_3, wknd_3, wsn_3, wvar_4, wzero_4, wknd_4, wsn_4, wvar_53, wzero_53, wvar_68, wzero_68, wmp_68, wzero_70, wbld_70, wsl_76, wkn_76, wvar_76, wzero_76, wsl_78, wkn_78, wvar_78, wzero_78, hk, hd, hol, hg0, own_set hlr]; try simp (disch := omega) only [wrap64]) | (with_reducible refine hK' _ ?_; clear hK' K') | (with_reducible refine hK _ ?_; clear hK K) | (with_reducible first | refine And.intro (And.intro rfl rfl) ?_ | refine And.intro (by omega) ?_) | (with_reducible refine And.intro (fun hg => ?_) (fun hg => ?_) <;> first | simp only [eq_false hg, decide_true, decide_false, and_true, true_and, and_false, false_and, not_true_eq_false, not_false_eq_true] | simp only [eq_true hg, decide_true, decide_false, and_true, true_and, and_false, false_and, not_true_eq_false, not_false_eq_true] | simp only [hg, decide_true, decide_false, and_true, true_and, and_false, false_and, not_true_eq_false, not_false_eq_true]) | (with_reducible first | refine And.intro rfl (And.intro rfl rfl) | refine thenQ_n ?_ | refine thenQ_exit ?_ | refine thenQ_ret ?_ | refine midQ_ret ?_ | refine midQ_exit ?_ | refine blockQ_same ?_ | refine blockQ_ne (by decide) ?_ | refine blockQ_ret ?_ | refine blockQ_n ?_ | refine AW.exit ?_ | refine AW.block ?_ | refine AW.cond_t rfl ?_ | refine AW.cond_f rfl ?_ | refine AW.cond_dec rfl (fun hc => ?_) (fun hc => ?_)) | (with_reducible refine AW.cond rfl (fun hc => ?_) (fun hc => ?_) <;> try simp only [Bool.not_eq_eq_eq_not, Bool.not_true, Bool.not_false, decide_eq_true_eq, decide_eq_false_iff_not] at hc) | (with_reducible first | refine AW.seq ?_ | refine AW.skip ?_ | refine AW.ret ?_ | refine And.intro ?_ ?_) | (with_reducible intro hg; first | simp only [eq_false hg, decide_true, decide_false, and_true, true_and, and_false, false_and, not_true_eq_false, not_false_eq_true] | simp only [eq_true hg, decide_true, decide_false, and_true, true_and, and_false, false_and, not_true_eq_false, not_false_eq_true]) | (with_reducible refine retQ_drop ?_; simp only [vRes, packRes, vLoad, vPart, lk, cond, Nat.reduceBEq, get_loc, getD_zero, getD_succ, true_and, List.length_cons, List.length_nil, Nat.reduceAdd, Nat.reduceLT, Nat.reduceLeDiff, List.take_succ_cons, List.take_zero, List.drop_succ_cons, List.drop_zero, wvar_1, wzero_1, wvar_3, wzero_3, wknd_3, wsn_3, wvar_4, wzero_4, wknd_4, wsn_4, wvar_53, wzero_53, wvar_68, wzero_68, wmp_68, wzero_70, wbld_70, wsl_76, wkn_76, wvar_76, wzero_76, wsl_78, wkn_78, wvar_78, wzero_78]) )
            all_goals first
              | (exfalso; omega)
              | skip
            refine ⟨b + 1, by omega, by omega, ?_⟩
            rw [if_neg (by rw [hs]; simp)]
            unfold ag1
            rw [hs, h0]
            simp only [List.nil_append, List.length_singleton]
            exact (Weak.sel [0, 1, 3] hB (by decide) (by (repeat' (first | exact trivial | exact RenB.plRow rfl | exact RenB.dead _ | exact RenB.ownKeep (by assumption) | exact RenB.ownSnoc (by assumption) rfl | exact RenB.ownAt (by assumption) (by assumption) rfl | exact RenB.map _ _ | exact RenB.iter rfl | refine And.intro ?_ ?_ | (refine RenB.plBox ?_; (repeat' (first | exact Pl.v _ | exact Pl.junk | exact Pl.rd rfl _ | exact pl_nil | refine pl_cons ?_ ?_ | refine Pl.agg ?_ | refine Pl.tup ?_ | refine Pl.rp ?_ | refine Pl.fn ?_)); (first | done | fail)) | refine RenB.of ?_ | exact RenV.ptr rfl | exact RenV.sl rfl | exact RenV.mp rfl | exact RenV.it rfl | (refine RenV.pl ?_; (repeat' (first | exact Pl.v _ | exact Pl.junk | exact Pl.rd rfl _ | exact pl_nil | refine pl_cons ?_ ?_ | refine Pl.agg ?_ | refine Pl.tup ?_ | refine Pl.rp ?_ | refine Pl.fn ?_)); (first | done | fail)) | refine RenV.aggL ?_ | refine RenV.fnL ?_ | exact Nat.lt_of_sub_pos (by decide) | (simp; (first | done | fail)))); (first | done | fail)) (by (repeat' (first | exact trivial | exact RenV.ptr rfl | exact RenV.sl rfl | exact RenV.mp rfl | exact RenV.it rfl | exact RenV.low (.v _) | exact RenV.low (IdsLt.ptr (by assumption)) | (refine RenV.pl ?_; (repeat' (first | exact Pl.v _ | exact Pl.junk | exact Pl.rd rfl _ | exact pl_nil | refine pl_cons ?_ ?_ | refine Pl.agg ?_ | refine Pl.tup ?_ | refine Pl.rp ?_ | refine Pl.fn ?_)); (first | done | fail)) | refine RenV.fnL ?_ | refine RenV.aggL ?_ | refine And.intro ?_ ?_)); (first | done | fail)))
          · rw [if_neg h0]
            unfold ag1
            have hg1 : (refsE G.length (grTo c a) ++ some (H.length + 2, (gRow c a b).length) :: List.replicate (12 - a) none).getD a none = some (H.length + 2, (gRow c a b).length) := own_get hlr
            have htk : (gRow c a b).take (gRow c a b).length = gRow c a b := List.take_of_length_le (Nat.le_refl _)
            repeat' (first | (with_reducible first | refine AW.sreg envOk2 fun K hK => ?_ | refine AW.region envOk2 fun K hK => ?_ | refine vcL_nil ?_) | (with_reducible (first | refine vcL_cons fun K' hK' => ?_); simp only [isC, Bool.false_or, Bool.or_true, vAppend, elems, ↓reduceDIte, List.take_length, Nat.le_refl, List.drop_zero, vGuard, undef, Bool.not_eq_eq_eq_not, dstOk, vcOp, vcF, isPure, putS, vcCall, St.ev, St.put, lk, AVal.ofVal, initS, Nat.reduceLT, true_and, and_true, vBin, vPart, vLoad, vStore, vIdxA, vLen, vBuild, vBuildSl, vMake, vSlice, bnd, partsA, fillA, decAll, AVal.flat, AVal.cell, cellsOk, setRange, ETy.enc, ETy.dec, ETy.sz, ETy.d, cond, Nat.reduceBEq, Nat.reduceAdd, Int.toNat_natCast, List.length_set, List.length_append, List.length_replicate, List.length_take, Nat.reduceSub, Nat.reduceEqDiff, get_loc, setBox_loc, next_eq, List.length_cons, List.length_nil, List.map_cons, List.map_nil, List.append_nil, List.nil_append, List.cons_append, List.set_cons_zero, List.set_cons_succ, getD_zero, getD_succ, List.getElem?_cons_succ, List.getElem?_cons_zero, List.take_succ_cons, List.take_zero, List.drop_succ_cons, List.all_cons, List.all_nil, Bool.and_true, Bool.true_and, Option.bind_some, Option.map_some, Option.map_none, decide_eq_true_eq, decide_eq_false_iff_not, ne_eq, Bool.not_eq_true, Bool.not_eq_false, Decidable.not_not, not_true_eq_false, not_false_eq_true, forall_const, false_implies, Bool.true_eq_false, Bool.false_eq_true, reduceCtorEq, decide_true, decide_false, Bool.not_true, Bool.not_false, if_true, if_false, Nat.zero_add, Nat.lt_irrefl, Value.oneCell', gt_iff_lt, Nat.reduceLeDiff, Nat.lt_add_one, vSealSl, vMakeMap, vLookup, vMapUpd, vMapEnt, vEntSt, vRange, vEntry, KK.of, KK.av, lkRes, entry_last, wvar_1, wzero_1, wvar_3, wzero_3, wknd_3, wsn_3, wvar_4, wzero_4, wknd_4, wsn_4, wvar_53, wzero_53, wvar_68, wzero_68, wmp_68, wzero_70, wbld_70, wsl_76, wkn_76, wvar_76, wzero_76, wsl_78, wkn_78, wvar_78, wzero_78, hk, hd, hol, hg1, htk, own_set hlr]; try simp (disch := omega) only [wrap64]) | (with_reducible refine hK' _ ?_; clear hK' K') | (with_reducible refine hK _ ?_; clear hK K) | (with_reducible first | refine And.intro (And.intro rfl rfl) ?_ | refine And.intro (by omega) ?_) | (with_reducible refine And.intro (fun hg => ?_) (fun hg => ?_) <;> first | simp only [eq_false hg, decide_true, decide_false, and_true, true_and, and_false, false_and, not_true_eq_false, not_false_eq_true] | simp only [eq_true hg, decide_true, decide_false, and_true, true_and, and_false, false_and, not_true_eq_false, not_false_eq_true] | simp only [hg, decide_true, decide_false, and_true, true_and, and_false, false_and, not_true_eq_false, not_false_eq_true]) | (with_reducible first | refine And.intro rfl (And.intro rfl rfl) | refine thenQ_n ?_ | refine thenQ_exit ?_ | refine thenQ_ret ?_ | refine midQ_ret ?_ | refine midQ_exit ?_ | refine blockQ_same ?_ | refine blockQ_ne (by decide) ?_ | refine blockQ_ret ?_ | refine blockQ_n ?_ | refine AW.exit ?_ | refine AW.block ?_ | refine AW.cond_t rfl ?_ | refine AW.cond_f rfl ?_ | refine AW.cond_dec rfl (fun hc => ?_) (fun hc => ?_)) | (with_reducible refine AW.cond rfl (fun hc => ?_) (fun hc => ?_) <;> try simp only [Bool.not_eq_eq_eq_not, Bool.not_true, Bool.not_false, decide_eq_true_eq, decide_eq_false_iff_not] at hc) | (with_reducible first | refine AW.seq ?_ | refine AW.skip ?_ | refine AW.ret ?_ | refine And.intro ?_ ?_) | (with_reducible intro hg; first | simp only [eq_false hg, decide_true, decide_false, and_true, true_and, and_false, false_and, not_true_eq_false, not_false_eq_true] | simp only [eq_true hg, decide_true, decide_false, and_true, true_and, and_false, false_and, not_true_eq_false, not_false_eq_true]) | (with_reducible refine retQ_drop ?_; simp only [vRes, packRes, vLoad, vPart, lk, cond, Nat.reduceBEq, get_loc, getD_zero, getD_succ, true_and, List.length_cons, List.length_nil, Nat.reduceAdd, Nat.reduceLT, Nat.reduceLeDiff, List.take_succ_cons, List.take_zero, List.drop_succ_cons, List.drop_zero, wvar_1, wzero_1, wvar_3, wzero_3, wknd_3, wsn_3, wvar_4, wzero_4, wknd_4, wsn_4, wvar_53, wzero_53, wvar_68, wzero_68, wmp_68, wzero_70, wbld_70, wsl_76, wkn_76, wvar_76, wzero_76, wsl_78, wkn_78, wvar_78, wzero_78]) )
            all_goals first
              | (exfalso; omega)
              | skip
            refine ⟨b + 1, by omega, by omega, ?_⟩
            rw [if_neg (by rw [hs]; simp)]
            rw [hs]
            simp only [List.length_append, List.length_singleton]
            exact (Weak.sel [0, 1, 4] hB (by decide) (by (repeat' (first | exact trivial | exact RenB.plRow rfl | exact RenB.dead _ | exact RenB.ownKeep (by assumption) | exact RenB.ownSnoc (by assumption) rfl | exact RenB.ownAt (by assumption) (by assumption) rfl | exact RenB.map _ _ | exact RenB.iter rfl | refine And.intro ?_ ?_ | (refine RenB.plBox ?_; (repeat' (first | exact Pl.v _ | exact Pl.junk | exact Pl.rd rfl _ | exact pl_nil | refine pl_cons ?_ ?_ | refine Pl.agg ?_ | refine Pl.tup ?_ | refine Pl.rp ?_ | refine Pl.fn ?_)); (first | done | fail)) | refine RenB.of ?_ | exact RenV.ptr rfl | exact RenV.sl rfl | exact RenV.mp rfl | exact RenV.it rfl | (refine RenV.pl ?_; (repeat' (first | exact Pl.v _ | exact Pl.junk | exact Pl.rd rfl _ | exact pl_nil | refine pl_cons ?_ ?_ | refine Pl.agg ?_ | refine Pl.tup ?_ | refine Pl.rp ?_ | refine Pl.fn ?_)); (first | done | fail)) | refine RenV.aggL ?_ | refine RenV.fnL ?_ | exact Nat.lt_of_sub_pos (by decide) | (simp; (first | done | fail)))); (first | done | fail)) (by (repeat' (first | exact trivial | exact RenV.ptr rfl | exact RenV.sl rfl | exact RenV.mp rfl | exact RenV.it rfl | exact RenV.low (.v _) | exact RenV.low (IdsLt.ptr (by assumption)) | (refine RenV.pl ?_; (repeat' (first | exact Pl.v _ | exact Pl.junk | exact Pl.rd rfl _ | exact pl_nil | refine pl_cons ?_ ?_ | refine Pl.agg ?_ | refine Pl.tup ?_ | refine Pl.rp ?_ | refine Pl.fn ?_)); (first | done | fail)) | refine RenV.fnL ?_ | refine RenV.aggL ?_ | refine And.intro ?_ ?_)); (first | done | fail)))
        · have hd := eq_false hab
          have hs := gRow_no hab
          by_cases h0 : gRow c a b = []
          · rw [if_pos h0]
            unfold ag0
            repeat' (first | (with_reducible first | refine AW.sreg envOk2 fun K hK => ?_ | refine AW.region envOk2 fun K hK => ?_ | refine vcL_nil ?_) | (with_reducible (first | refine vcL_cons fun K' hK' => ?_); simp only [isC, Bool.false_or, Bool.or_true, vAppend, elems, ↓reduceDIte, List.take_length, Nat.le_refl, List.drop_zero, vGuard, undef, Bool.not_eq_eq_eq_not, dstOk, vcOp, vcF, isPure, putS, vcCall, St.ev, St.put, lk, AVal.ofVal, initS, Nat.reduceLT, true_and, and_true, vBin, vPart, vLoad, vStore, vIdxA, vLen, vBuild, vBuildSl, vMake, vSlice, bnd, partsA, fillA, decAll, AVal.flat, AVal.cell, cellsOk, setRange, ETy.enc, ETy.dec, ETy.sz, ETy.d, cond, Nat.reduceBEq, Nat.reduceAdd, Int.toNat_natCast, List.length_set, List.length_append, List.length_replicate, List.length_take, Nat.reduceSub, Nat.reduceEqDiff, get_loc, setBox_loc, next_eq, List.length_cons, List.length_nil, List.map_cons, List.map_nil, List.append_nil, List.nil_append, List.cons_append, List.set_cons_zero, List.set_cons_succ, getD_zero, getD_succ, List.getElem?_cons_succ, List.getElem?_cons_zero, List.take_succ_cons, List.take_zero, List.drop_succ_cons, List.all_cons, List.all_nil, Bool.and_true, Bool.true_and, Option.bind_some, Option.map_some, Option.map_none, decide_eq_true_eq, decide_eq_false_iff_not, ne_eq, Bool.not_eq_true, Bool.not_eq_false, Decidable.not_not, not_true_eq_false, not_false_eq_true, forall_const, false_implies, Bool.true_eq_false, Bool.false_eq_true, reduceCtorEq, decide_true, decide_false, Bool.not_true, Bool.not_false, if_true, if_false, Nat.zero_add, Nat.lt_irrefl, Value.oneCell', gt_iff_lt, Nat.reduceLeDiff, Nat.lt_add_one, vSealSl, vMakeMap, vLookup, vMapUpd, vMapEnt, vEntSt, vRange, vEntry, KK.of, KK.av, lkRes, entry_last, wvar_1, wzero_1, wvar_3, wzero_3, wknd_3, wsn_3, wvar_4, wzero_4, wknd_4, wsn_4, wvar_53, wzero_53, wvar_68, wzero_68, wmp_68, wzero_70, wbld_70, wsl_76, wkn_76, wvar_76, wzero_76, wsl_78, wkn_78, wvar_78, wzero_78, hk, hd]; try simp (disch := omega) only [wrap64]) | (with_reducible refine hK' _ ?_; clear hK' K') | (with_reducible refine hK _ ?_; clear hK K) | (with_reducible first | refine And.intro (And.intro rfl rfl) ?_ | refine And.intro (by omega) ?_) | (with_reducible refine And.intro (fun hg => ?_) (fun hg => ?_) <;> first | simp only [eq_false hg, decide_true, decide_false, and_true, true_and, and_false, false_and, not_true_eq_false, not_false_eq_true] | simp only [eq_true hg, decide_true, decide_false, and_true, true_and, and_false, false_and, not_true_eq_false, not_false_eq_true] | simp only [hg, decide_true, decide_false, and_true, true_and, and_false, false_and, not_true_eq_false, not_false_eq_true]) | (with_reducible first | refine And.intro rfl (And.intro rfl rfl) | refine thenQ_n ?_ | refine thenQ_exit ?_ | refine thenQ_ret ?_ | refine midQ_ret ?_ | refine midQ_exit ?_ | refine blockQ_same ?_ | refine blockQ_ne (by decide) ?_ | refine blockQ_ret ?_ | refine blockQ_n ?_ | refine AW.exit ?_ | refine AW.block ?_ | refine AW.cond_t rfl ?_ | refine AW.cond_f rfl ?_ | refine AW.cond_dec rfl (fun hc => ?_) (fun hc => ?_)) | (with_reducible refine AW.cond rfl (fun hc => ?_) (fun hc => ?_) <;> try simp only [Bool.not_eq_eq_eq_not, Bool.not_true, Bool.not_false, decide_eq_true_eq, decide_eq_false_iff_not] at hc) | (with_reducible first | refine AW.seq ?_ | refine AW.skip ?_ | refine AW.ret ?_ | refine And.intro ?_ ?_) | (with_reducible intro hg; first | simp only [eq_false hg, decide_true, decide_false, and_true, true_and, and_false, false_and, not_true_eq_false, not_false_eq_true] | simp only [eq_true hg, decide_true, decide_false, and_true, true_and, and_false, false_and, not_true_eq_false, not_false_eq_true]) | (with_reducible refine retQ_drop ?_; simp only [vRes, packRes, vLoad, vPart, lk, cond, Nat.reduceBEq, get_loc, getD_zero, getD_succ, true_and, List.length_cons, List.length_nil, Nat.reduceAdd, Nat.reduceLT, Nat.reduceLeDiff, List.take_succ_cons, List.take_zero, List.drop_succ_cons, List.drop_zero, wvar_1, wzero_1, wvar_3, wzero_3, wknd_3, wsn_3, wvar_4, wzero_4, wknd_4, wsn_4, wvar_53, wzero_53, wvar_68, wzero_68, wmp_68, wzero_70, wbld_70, wsl_76, wkn_76, wvar_76, wzero_76, wsl_78, wkn_78, wvar_78, wzero_78]) )
            all_goals first
              | (exfalso; omega)
              | skip
            refine ⟨b + 1, by omega, by omega, ?_⟩
            rw [if_pos (by rw [hs]; exact h0)]
            exact (Weak.slots (by repeat' first | exact trivial | exact ⟨rfl, trivial⟩ | refine ⟨rfl, ?_⟩))
          · rw [if_neg h0]
            unfold ag1
            repeat' (first | (with_reducible first | refine AW.sreg envOk2 fun K hK => ?_ | refine AW.region envOk2 fun K hK => ?_ | refine vcL_nil ?_) | (with_reducible (first | refine vcL_cons fun K' hK' => ?_); simp only [isC, Bool.false_or, Bool.or_true, vAppend, elems, ↓reduceDIte, List.take_length, Nat.le_refl, List.drop_zero, vGuard, undef, Bool.not_eq_eq_eq_not, dstOk, vcOp, vcF, isPure, putS, vcCall, St.ev, St.put, lk, AVal.ofVal, initS, Nat.reduceLT, true_and, and_true, vBin, vPart, vLoad, vStore, vIdxA, vLen, vBuild, vBuildSl, vMake, vSlice, bnd, partsA, fillA, decAll, AVal.flat, AVal.cell, cellsOk, setRange, ETy.enc, ETy.dec, ETy.sz, ETy.d, cond, Nat.reduceBEq, Nat.reduceAdd, Int.toNat_natCast, List.length_set, List.length_append, List.length_replicate, List.length_take, Nat.reduceSub, Nat.reduceEqDiff, get_loc, setBox_loc, next_eq, List.length_cons, List.length_nil, List.map_cons, List.map_nil, List.append_nil, List.nil_append, List.cons_append, List.set_cons_zero, List.set_cons_succ, getD_zero, getD_succ, List.getElem?_cons_succ, List.getElem?_cons_zero, List.take_succ_cons, List.take_zero, List.drop_succ_cons, List.all_cons, List.all_nil, Bool.and_true, Bool.true_and, Option.bind_some, Option.map_some, Option.map_none, decide_eq_true_eq, decide_eq_false_iff_not, ne_eq, Bool.not_eq_true, Bool.not_eq_false, Decidable.not_not, not_true_eq_false, not_false_eq_true, forall_const, false_implies, Bool.true_eq_false, Bool.false_eq_true, reduceCtorEq, decide_true, decide_false, Bool.not_true, Bool.not_false, if_true, if_false, Nat.zero_add, Nat.lt_irrefl, Value.oneCell', gt_iff_lt, Nat.reduceLeDiff, Nat.lt_add_one, vSealSl, vMakeMap, vLookup, vMapUpd, vMapEnt, vEntSt, vRange, vEntry, KK.of, KK.av, lkRes, entry_last, wvar_1, wzero_1, wvar_3, wzero_3, wknd_3, wsn_3, wvar_4, wzero_4, wknd_4, wsn_4, wvar_53, wzero_53, wvar_68, wzero_68, wmp_68, wzero_70, wbld_70, wsl_76, wkn_76, wvar_76, wzero_76, wsl_78, wkn_78, wvar_78, wzero_78, hk, hd]; try simp (disch := omega) only [wrap64]) | (with_reducible refine hK' _ ?_; clear hK' K') | (with_reducible refine hK _ ?_; clear hK K) | (with_reducible first | refine And.intro (And.intro rfl rfl) ?_ | refine And.intro (by omega) ?_) | (with_reducible refine And.intro (fun hg => ?_) (fun hg => ?_) <;> first | simp only [eq_false hg, decide_true, decide_false, and_true, true_and, and_false, false_and, not_true_eq_false, not_false_eq_true] | simp only [eq_true hg, decide_true, decide_false, and_true, true_and, and_false, false_and, not_true_eq_false, not_false_eq_true] | simp only [hg, decide_true, decide_false, and_true, true_and, and_false, false_and, not_true_eq_false, not_false_eq_true]) | (with_reducible first | refine And.intro rfl (And.intro rfl rfl) | refine thenQ_n ?_ | refine thenQ_exit ?_ | refine thenQ_ret ?_ | refine midQ_ret ?_ | refine midQ_exit ?_ | refine blockQ_same ?_ | refine blockQ_ne (by decide) ?_ | refine blockQ_ret ?_ | refine blockQ_n ?_ | refine AW.exit ?_ | refine AW.block ?_ | refine AW.cond_t rfl ?_ | refine AW.cond_f rfl ?_ | refine AW.cond_dec rfl (fun hc => ?_) (fun hc => ?_)) | (with_reducible refine AW.cond rfl (fun hc => ?_) (fun hc => ?_) <;> try simp only [Bool.not_eq_eq_eq_not, Bool.not_true, Bool.not_false, decide_eq_true_eq, decide_eq_false_iff_not] at hc) | (with_reducible first | refine AW.seq ?_ | refine AW.skip ?_ | refine AW.ret ?_ | refine And.intro ?_ ?_) | (with_reducible intro hg; first | simp only [eq_false hg, decide_true, decide_false, and_true, true_and, and_false, false_and, not_true_eq_false, not_false_eq_true] | simp only [eq_true hg, decide_true, decide_false, and_true, true_and, and_false, false_and, not_true_eq_false, not_false_eq_true]) | (with_reducible refine retQ_drop ?_; simp only [vRes, packRes, vLoad, vPart, lk, cond, Nat.reduceBEq, get_loc, getD_zero, getD_succ, true_and, List.length_cons, List.length_nil, Nat.reduceAdd, Nat.reduceLT, Nat.reduceLeDiff, List.take_succ_cons, List.take_zero, List.drop_succ_cons, List.drop_zero, wvar_1, wzero_1, wvar_3, wzero_3, wknd_3, wsn_3, wvar_4, wzero_4, wknd_4, wsn_4, wvar_53, wzero_53, wvar_68, wzero_68, wmp_68, wzero_70, wbld_70, wsl_76, wkn_76, wvar_76, wzero_76, wsl_78, wkn_78, wvar_78, wzero_78]) )
            all_goals first
              | (exfalso; omega)
              | skip
            refine ⟨b + 1, by omega, by omega, ?_⟩
            rw [if_neg (by rw [hs]; exact h0), hs]
            exact (Weak.slots (by repeat' first | exact trivial | exact ⟨rfl, trivial⟩ | refine ⟨rfl, ?_⟩))
      · obtain rfl : b = 13 := by omega
        by_cases h0 : gRow c a 13 = []
        · rw [if_pos h0]
          unfold ag0
          repeat' (first | (with_reducible first | refine AW.sreg envOk2 fun K hK => ?_ | refine AW.region envOk2 fun K hK => ?_ | refine vcL_nil ?_) | (with_reducible (first | refine vcL_cons fun K' hK' => ?_); simp only [isC, Bool.false_or, Bool.or_true, vAppend, elems, ↓reduceDIte, List.take_length, Nat.le_refl, List.drop_zero, vGuard, undef, Bool.not_eq_eq_eq_not, dstOk, vcOp, vcF, isPure, putS, vcCall, St.ev, St.put, lk, AVal.ofVal, initS, Nat.reduceLT, true_and, and_true, vBin, vPart, vLoad, vStore, vIdxA, vLen, vBuild, vBuildSl, vMake, vSlice, bnd, partsA, fillA, decAll, AVal.flat, AVal.cell, cellsOk, setRange, ETy.enc, ETy.dec, ETy.sz, ETy.d, cond, Nat.reduceBEq, Nat.reduceAdd, Int.toNat_natCast, List.length_set, List.length_append, List.length_replicate, List.length_take, Nat.reduceSub, Nat.reduceEqDiff, get_loc, setBox_loc, next_eq, List.length_cons, List.length_nil, List.map_cons, List.map_nil, List.append_nil, List.nil_append, List.cons_append, List.set_cons_zero, List.set_cons_succ, getD_zero, getD_succ, List.getElem?_cons_succ, List.getElem?_cons_zero, List.take_succ_cons, List.take_zero, List.drop_succ_cons, List.all_cons, List.all_nil, Bool.and_true, Bool.true_and, Option.bind_some, Option.map_some, Option.map_none, decide_eq_true_eq, decide_eq_false_iff_not, ne_eq, Bool.not_eq_true, Bool.not_eq_false, Decidable.not_not, not_true_eq_false, not_false_eq_true, forall_const, false_implies, Bool.true_eq_false, Bool.false_eq_true, reduceCtorEq, decide_true, decide_false, Bool.not_true, Bool.not_false, if_true, if_false, Nat.zero_add, Nat.lt_irrefl, Value.oneCell', gt_iff_lt, Nat.reduceLeDiff, Nat.lt_add_one, vSealSl, vMakeMap, vLookup, vMapUpd, vMapEnt, vEntSt, vRange, vEntry, KK.of, KK.av, lkRes, entry_last, wvar_1, wzero_1, wvar_3, wzero_3, wknd_3, wsn_3, wvar_4, wzero_4, wknd_4, wsn_4, wvar_53, wzero_53, wvar_68, wzero_68, wmp_68, wzero_70, wbld_70, wsl_76, wkn_76, wvar_76, wzero_76, wsl_78, wkn_78, wvar_78, wzero_78]; try simp (disch := omega) only [wrap64]) | (with_reducible refine hK' _ ?_; clear hK' K') | (with_reducible refine hK _ ?_; clear hK K) | (with_reducible first | refine And.intro (And.intro rfl rfl) ?_ | refine And.intro (by omega) ?_) | (with_reducible refine And.intro (fun hg => ?_) (fun hg => ?_) <;> first | simp only [eq_false hg, decide_true, decide_false, and_true, true_and, and_false, false_and, not_true_eq_false, not_false_eq_true] | simp only [eq_true hg, decide_true, decide_false, and_true, true_and, and_false, false_and, not_true_eq_false, not_false_eq_true] | simp only [hg, decide_true, decide_false, and_true, true_and, and_false, false_and, not_true_eq_false, not_false_eq_true]) | (with_reducible first | refine And.intro rfl (And.intro rfl rfl) | refine thenQ_n ?_ | refine thenQ_exit ?_ | refine thenQ_ret ?_ | refine midQ_ret ?_ | refine midQ_exit ?_ | refine blockQ_same ?_ | refine blockQ_ne (by decide) ?_ | refine blockQ_ret ?_ | refine blockQ_n ?_ | refine AW.exit ?_ | refine AW.block ?_ | refine AW.cond_t rfl ?_ | refine AW.cond_f rfl ?_ | refine AW.cond_dec rfl (fun hc => ?_) (fun hc => ?_)) | (with_reducible refine AW.cond rfl (fun hc => ?_) (fun hc => ?_) <;> try simp only [Bool.not_eq_eq_eq_not, Bool.not_true, Bool.not_false, decide_eq_true_eq, decide_eq_false_iff_not] at hc) | (with_reducible first | refine AW.seq ?_ | refine AW.skip ?_ | refine AW.ret ?_ | refine And.intro ?_ ?_) | (with_reducible intro hg; first | simp only [eq_false hg, decide_true, decide_false, and_true, true_and, and_false, false_and, not_true_eq_false, not_false_eq_true] | simp only [eq_true hg, decide_true, decide_false, and_true, true_and, and_false, false_and, not_true_eq_false, not_false_eq_true]) | (with_reducible refine retQ_drop ?_; simp only [vRes, packRes, vLoad, vPart, lk, cond, Nat.reduceBEq, get_loc, getD_zero, getD_succ, true_and, List.length_cons, List.length_nil, Nat.reduceAdd, Nat.reduceLT, Nat.reduceLeDiff, List.take_succ_cons, List.take_zero, List.drop_succ_cons, List.drop_zero, wvar_1, wzero_1, wvar_3, wzero_3, wknd_3, wsn_3, wvar_4, wzero_4, wknd_4, wsn_4, wvar_53, wzero_53, wvar_68, wzero_68, wmp_68, wzero_70, wbld_70, wsl_76, wkn_76, wvar_76, wzero_76, wsl_78, wkn_78, wvar_78, wzero_78]) )
          all_goals first
            | (exfalso; omega)
            | skip
          refine ⟨a + 1, by omega, by omega, ?_⟩
          rw [grTo_succ, h0, ne_nil, refsE_nil, hH, show 13 - (a + 1) = 12 - a by omega, List.append_assoc]
          exact (Weak.slots (by repeat' first | exact trivial | exact ⟨rfl, trivial⟩ | refine ⟨rfl, ?_⟩))
        · rw [if_neg h0]
          unfold ag1
          repeat' (first | (with_reducible first | refine AW.sreg envOk2 fun K hK => ?_ | refine AW.region envOk2 fun K hK => ?_ | refine vcL_nil ?_) | (with_reducible (first | refine vcL_cons fun K' hK' => ?_); simp only [isC, Bool.false_or, Bool.or_true, vAppend, elems, ↓reduceDIte, List.take_length, Nat.le_refl, List.drop_zero, vGuard, undef, Bool.not_eq_eq_eq_not, dstOk, vcOp, vcF, isPure, putS, vcCall, St.ev, St.put, lk, AVal.ofVal, initS, Nat.reduceLT, true_and, and_true, vBin, vPart, vLoad, vStore, vIdxA, vLen, vBuild, vBuildSl, vMake, vSlice, bnd, partsA, fillA, decAll, AVal.flat, AVal.cell, cellsOk, setRange, ETy.enc, ETy.dec, ETy.sz, ETy.d, cond, Nat.reduceBEq, Nat.reduceAdd, Int.toNat_natCast, List.length_set, List.length_append, List.length_replicate, List.length_take, Nat.reduceSub, Nat.reduceEqDiff, get_loc, setBox_loc, next_eq, List.length_cons, List.length_nil, List.map_cons, List.map_nil, List.append_nil, List.nil_append, List.cons_append, List.set_cons_zero, List.set_cons_succ, getD_zero, getD_succ, List.getElem?_cons_succ, List.getElem?_cons_zero, List.take_succ_cons, List.take_zero, List.drop_succ_cons, List.all_cons, List.all_nil, Bool.and_true, Bool.true_and, Option.bind_some, Option.map_some, Option.map_none, decide_eq_true_eq, decide_eq_false_iff_not, ne_eq, Bool.not_eq_true, Bool.not_eq_false, Decidable.not_not, not_true_eq_false, not_false_eq_true, forall_const, false_implies, Bool.true_eq_false, Bool.false_eq_true, reduceCtorEq, decide_true, decide_false, Bool.not_true, Bool.not_false, if_true, if_false, Nat.zero_add, Nat.lt_irrefl, Value.oneCell', gt_iff_lt, Nat.reduceLeDiff, Nat.lt_add_one, vSealSl, vMakeMap, vLookup, vMapUpd, vMapEnt, vEntSt, vRange, vEntry, KK.of, KK.av, lkRes, entry_last, wvar_1, wzero_1, wvar_3, wzero_3, wknd_3, wsn_3, wvar_4, wzero_4, wknd_4, wsn_4, wvar_53, wzero_53, wvar_68, wzero_68, wmp_68, wzero_70, wbld_70, wsl_76, wkn_76, wvar_76, wzero_76, wsl_78, wkn_78, wvar_78, wzero_78]; try simp (disch := omega) only [wrap64]) | (with_reducible refine hK' _ ?_; clear hK' K') | (with_reducible refine hK _ ?_; clear hK K) | (with_reducible first | refine And.intro (And.intro rfl rfl) ?_ | refine And.intro (by omega) ?_) | (with_reducible refine And.intro (fun hg => ?_) (fun hg => ?_) <;> first | simp only [eq_false hg, decide_true, decide_false, and_true, true_and, and_false, false_and, not_true_eq_false, not_false_eq_true] | simp only [eq_true hg, decide_true, decide_false, and_true, true_and, and_false, false_and, not_true_eq_false, not_false_eq_true] | simp only [hg, decide_true, decide_false, and_true, true_and, and_false, false_and, not_true_eq_false, not_false_eq_true]) | (with_reducible first | refine And.intro rfl (And.intro rfl rfl) | refine thenQ_n ?_ | refine thenQ_exit ?_ | refine thenQ_ret ?_ | refine midQ_ret ?_ | refine midQ_exit ?_ | refine blockQ_same ?_ | refine blockQ_ne (by decide) ?_ | refine blockQ_ret ?_ | refine blockQ_n ?_ | refine AW.exit ?_ | refine AW.block ?_ | refine AW.cond_t rfl ?_ | refine AW.cond_f rfl ?_ | refine AW.cond_dec rfl (fun hc => ?_) (fun hc => ?_)) | (with_reducible refine AW.cond rfl (fun hc => ?_) (fun hc => ?_) <;> try simp only [Bool.not_eq_eq_eq_not, Bool.not_true, Bool.not_false, decide_eq_true_eq, decide_eq_false_iff_not] at hc) | (with_reducible first | refine AW.seq ?_ | refine AW.skip ?_ | refine AW.ret ?_ | refine And.intro ?_ ?_) | (with_reducible intro hg; first | simp only [eq_false hg, decide_true, decide_false, and_true, true_and, and_false, false_and, not_true_eq_false, not_false_eq_true] | simp only [eq_true hg, decide_true, decide_false, and_true, true_and, and_false, false_and, not_true_eq_false, not_false_eq_true]) | (with_reducible refine retQ_drop ?_; simp only [vRes, packRes, vLoad, vPart, lk, cond, Nat.reduceBEq, get_loc, getD_zero, getD_succ, true_and, List.length_cons, List.length_nil, Nat.reduceAdd, Nat.reduceLT, Nat.reduceLeDiff, List.take_succ_cons, List.take_zero, List.drop_succ_cons, List.drop_zero, wvar_1, wzero_1, wvar_3, wzero_3, wknd_3, wsn_3, wvar_4, wzero_4, wknd_4, wsn_4, wvar_53, wzero_53, wvar_68, wzero_68, wmp_68, wzero_70, wbld_70, wsl_76, wkn_76, wvar_76, wzero_76, wsl_78, wkn_78, wvar_78, wzero_78]) )
          all_goals first
            | (exfalso; omega)
            | skip
          refine ⟨a + 1, by omega, by omega, ?_⟩
          rw [grTo_succ, ne_snoc _ h0, rowsB_snoc, ← List.append_assoc, hH, refsE_snoc _ _ h0, show 13 - (a + 1) = 12 - a by omega, List.append_assoc, ← hHl]
          refine Weak.trans (st1 := agG c es H (refsE G.length (grTo c a) ++ some (H.length + 0, (gRow c a 13).length) :: List.replicate (12 - a) none) (gRow c a 13) a) ?_ ?_
          · unfold agG
            exact (Weak.sel [2, 0, 1] hB (by decide) (by (repeat' (first | exact trivial | exact RenB.plRow rfl | exact RenB.dead _ | exact RenB.ownKeep (by assumption) | exact RenB.ownSnoc (by assumption) rfl | exact RenB.ownAt (by assumption) (by assumption) rfl | exact RenB.map _ _ | exact RenB.iter rfl | refine And.intro ?_ ?_ | (refine RenB.plBox ?_; (repeat' (first | exact Pl.v _ | exact Pl.junk | exact Pl.rd rfl _ | exact pl_nil | refine pl_cons ?_ ?_ | refine Pl.agg ?_ | refine Pl.tup ?_ | refine Pl.rp ?_ | refine Pl.fn ?_)); (first | done | fail)) | refine RenB.of ?_ | exact RenV.ptr rfl | exact RenV.sl rfl | exact RenV.mp rfl | exact RenV.it rfl | (refine RenV.pl ?_; (repeat' (first | exact Pl.v _ | exact Pl.junk | exact Pl.rd rfl _ | exact pl_nil | refine pl_cons ?_ ?_ | refine Pl.agg ?_ | refine Pl.tup ?_ | refine Pl.rp ?_ | refine Pl.fn ?_)); (first | done | fail)) | refine RenV.aggL ?_ | refine RenV.fnL ?_ | exact Nat.lt_of_sub_pos (by decide) | (simp; (first | done | fail)))); (first | done | fail)) (by (repeat' (first | exact trivial | exact RenV.ptr rfl | exact RenV.sl rfl | exact RenV.mp rfl | exact RenV.it rfl | exact RenV.low (.v _) | exact RenV.low (IdsLt.ptr (by assumption)) | (refine RenV.pl ?_; (repeat' (first | exact Pl.v _ | exact Pl.junk | exact Pl.rd rfl _ | exact pl_nil | refine pl_cons ?_ ?_ | refine Pl.agg ?_ | refine Pl.tup ?_ | refine Pl.rp ?_ | refine Pl.fn ?_)); (first | done | fail)) | refine RenV.fnL ?_ | refine RenV.aggL ?_ | refine And.intro ?_ ?_)); (first | done | fail)))
          · unfold agG
            simp only [List.length_append, List.length_singleton, Nat.add_assoc, Nat.reduceAdd]
            exact Weak.grow
    · exfalso; omega
  · obtain rfl : a = 13 := by omega
    have hz : List.replicate (13 - 13) (none : Option (Nat × Nat)) = [] := rfl
    rw [hz, List.append_nil]
    repeat' (first | (with_reducible first | refine AW.sreg envOk2 fun K hK => ?_ | refine AW.region envOk2 fun K hK => ?_ | refine vcL_nil ?_) | (with_reducible (first | refine vcL_cons fun K' hK' => ?_); simp only [isC, Bool.false_or, Bool.or_true, vAppend, elems, ↓reduceDIte, List.take_length, Nat.le_refl, List.drop_zero, vGuard, undef, Bool.not_eq_eq_eq_not, dstOk, vcOp, vcF, isPure, putS, vcCall, St.ev, St.put, lk, AVal.ofVal, initS, Nat.reduceLT, true_and, and_true, vBin, vPart, vLoad, vStore, vIdxA, vLen, vBuild, vBuildSl, vMake, vSlice, bnd, partsA, fillA, decAll, AVal.flat, AVal.cell, cellsOk, setRange, ETy.enc, ETy.dec, ETy.sz, ETy.d, cond, Nat.reduceBEq, Nat.reduceAdd, Int.toNat_natCast, List.length_set, List.length_append, List.length_replicate, List.length_take, Nat.reduceSub, Nat.reduceEqDiff, get_loc, setBox_loc, next_eq, List.length_cons, List.length_nil, List.map_cons, List.map_nil, List.append_nil, List.nil_append, List.cons_append, List.set_cons_zero, List.set_cons_succ, getD_zero, getD_succ, List.getElem?_cons_succ, List.getElem?_cons_zero, List.take_succ_cons, List.take_zero, List.drop_succ_cons, List.all_cons, List.all_nil, Bool.and_true, Bool.true_and, Option.bind_some, Option.map_some, Option.map_none, decide_eq_true_eq, decide_eq_false_iff_not, ne_eq, Bool.not_eq_true, Bool.not_eq_false, Decidable.not_not, not_true_eq_false, not_false_eq_true, forall_const, false_implies, Bool.true_eq_false, Bool.false_eq_true, reduceCtorEq, decide_true, decide_false, Bool.not_true, Bool.not_false, if_true, if_false, Nat.zero_add, Nat.lt_irrefl, Value.oneCell', gt_iff_lt, Nat.reduceLeDiff, Nat.lt_add_one, vSealSl, vMakeMap, vLookup, vMapUpd, vMapEnt, vEntSt, vRange, vEntry, KK.of, KK.av, lkRes, entry_last, wvar_1, wzero_1, wvar_3, wzero_3, wknd_3, wsn_3, wvar_4, wzero_4, wknd_4, wsn_4, wvar_53, wzero_53, wvar_68, wzero_68, wmp_68, wzero_70, wbld_70, wsl_76, wkn_76, wvar_76, wzero_76, wsl_78, wkn_78, wvar_78, wzero_78]; try simp (disch := omega) only [wrap64]) | (with_reducible refine hK' _ ?_; clear hK' K') | (with_reducible refine hK _ ?_; clear hK K) | (with_reducible first | refine And.intro (And.intro rfl rfl) ?_ | refine And.intro (by omega) ?_) | (with_reducible refine And.intro (fun hg => ?_) (fun hg => ?_) <;> first | simp only [eq_false hg, decide_true, decide_false, and_true, true_and, and_false, false_and, not_true_eq_false, not_false_eq_true] | simp only [eq_true hg, decide_true, decide_false, and_true, true_and, and_false, false_and, not_true_eq_false, not_false_eq_true] | simp only [hg, decide_true, decide_false, and_true, true_and, and_false, false_and, not_true_eq_false, not_false_eq_true]) | (with_reducible first | refine And.intro rfl (And.intro rfl rfl) | refine thenQ_n ?_ | refine thenQ_exit ?_ | refine thenQ_ret ?_ | refine midQ_ret ?_ | refine midQ_exit ?_ | refine blockQ_same ?_ | refine blockQ_ne (by decide) ?_ | refine blockQ_ret ?_ | refine blockQ_n ?_ | refine AW.exit ?_ | refine AW.block ?_ | refine AW.cond_t rfl ?_ | refine AW.cond_f rfl ?_ | refine AW.cond_dec rfl (fun hc => ?_) (fun hc => ?_)) | (with_reducible refine AW.cond rfl (fun hc => ?_) (fun hc => ?_) <;> try simp only [Bool.not_eq_eq_eq_not, Bool.not_true, Bool.not_false, decide_eq_true_eq, decide_eq_false_iff_not] at hc) | (with_reducible first | refine AW.seq ?_ | refine AW.skip ?_ | refine AW.ret ?_ | refine And.intro ?_ ?_) | (with_reducible intro hg; first | simp only [eq_false hg, decide_true, decide_false, and_true, true_and, and_false, false_and, not_true_eq_false, not_false_eq_true] | simp only [eq_true hg, decide_true, decide_false, and_true, true_and, and_false, false_and, not_true_eq_false, not_false_eq_true]) | (with_reducible refine retQ_drop ?_; simp only [vRes, packRes, vLoad, vPart, lk, cond, Nat.reduceBEq, get_loc, getD_zero, getD_succ, true_and, List.length_cons, List.length_nil, Nat.reduceAdd, Nat.reduceLT, Nat.reduceLeDiff, List.take_succ_cons, List.take_zero, List.drop_succ_cons, List.drop_zero, wvar_1, wzero_1, wvar_3, wzero_3, wknd_3, wsn_3, wvar_4, wzero_4, wknd_4, wsn_4, wvar_53, wzero_53, wvar_68, wzero_68, wmp_68, wzero_70, wbld_70, wsl_76, wkn_76, wvar_76, wzero_76, wsl_78, wkn_78, wvar_78, wzero_78]) )
    all_goals first
      | (exfalso; omega)
      | skip
    exact ⟨.sl 1 (H.length + 0) 0 13, _, FinOk.keep [0] (L := [.row false (.own .i64) (refsE G.length (gr c))]) hB (by decide) (by (repeat' (first | exact trivial | exact RenB.plRow rfl | exact RenB.dead _ | exact RenB.ownKeep (by assumption) | exact RenB.ownSnoc (by assumption) rfl | exact RenB.ownAt (by assumption) (by assumption) rfl | exact RenB.map _ _ | exact RenB.iter rfl | refine And.intro ?_ ?_ | (refine RenB.plBox ?_; (repeat' (first | exact Pl.v _ | exact Pl.junk | exact Pl.rd rfl _ | exact pl_nil | refine pl_cons ?_ ?_ | refine Pl.agg ?_ | refine Pl.tup ?_ | refine Pl.rp ?_ | refine Pl.fn ?_)); (first | done | fail)) | refine RenB.of ?_ | exact RenV.ptr rfl | exact RenV.sl rfl | exact RenV.mp rfl | exact RenV.it rfl | (refine RenV.pl ?_; (repeat' (first | exact Pl.v _ | exact Pl.junk | exact Pl.rd rfl _ | exact pl_nil | refine pl_cons ?_ ?_ | refine Pl.agg ?_ | refine Pl.tup ?_ | refine Pl.rp ?_ | refine Pl.fn ?_)); (first | done | fail)) | refine RenV.aggL ?_ | refine RenV.fnL ?_ | exact Nat.lt_of_sub_pos (by decide) | (simp; (first | done | fail)))); (first | done | fail)) (RenV.sl (j := 0) rfl), by rw [Nat.add_zero, hHl]; rfl, by rw [← List.append_assoc, ← hH]; rfl⟩
theorem graph_lent (c : Ch) (H : List ABox) : LentV (killAll H ++ (rowsB (ne (gr c)) ++ [.row false (.own .i64) (refsE H.length (gr c))])) (.sl 1 (H.length + (ne (gr c)).length) 0 13) (.rd (.sli .i64) (gr c)) := by
  have hlk : ∀ j, j < (ne (gr c)).length → (killAll H ++ (rowsB (ne (gr c)) ++ [.row false (.own .i64) (refsE H.length (gr c))]))[H.length + j]? = some (.row false (.int .i64) ((ne (gr c)).getD j [])) := fun j hj => by
    have := lk_row (H := killAll H) (pre := []) (post := [.row false (.own .i64) (refsE H.length (gr c))]) hj
    simpa [killAll_length] using this
  refine .own (ro := false) (os := refsE H.length (gr c)) ?_ (by rw [refsE_len, gr_len]) (by rw [refsE_len]) (fun i hi => ?_)
  · have := lk_own (H := killAll H) (pre := []) (post := []) (xs := ne (gr c)) (X := .row false (.own .i64) (refsE H.length (gr c)))
    simpa [killAll_length] using this
  · rw [refsE_len] at hi
    rcases refsE_get (g := H.length) hi with h | ⟨j, h1, h2, h3⟩
    · exact .inl h
    · refine .inr ⟨H.length + j, false, h2, ?_⟩
      rw [hlk j h1, h3]
end Go.Proofs.Ytdphlhplcmjepaa
end
section
set_option linter.unusedSimpArgs false
set_option linter.unusedVariables false
set_option maxHeartbeats 1000000
namespace Go.Proofs.Ytdphlhplcmjepaa
open Go.Eng
theorem of67_ac (c : Ch) (hx : c.1.length ≤ 2000000) (hy : c.2.length = c.1.length) {H : List ABox} {kc : Nat} (hkc : H[kc]? = some (.box false [.rd (.int .i64) c.1, .rd (.int .i64) c.2])) : AC Try.prog 67 [.ptr 1 kc 0 0] H
    (fun r H' => r = .rp [.rd (.int .i64) (nets c), .rd .slb (relM (nets c) (Apart c)), .rd .slb (relM (nets c) (Above c))] 0 ∧ H' = H) := by
  refine AC.sealN (new := ofNew H c) ?_ (Pl.ids (by (repeat' (first | exact Pl.v _ | exact Pl.junk | exact Pl.rd rfl _ | exact pl_nil | refine pl_cons ?_ ?_ | refine Pl.agg ?_ | refine Pl.tup ?_ | refine Pl.rp ?_ | refine Pl.fn ?_)); (first | done | fail))) (of67N_ac c hx hy hkc)
  unfold ofNew
  split
  · rename_i h0
    have hm : ∀ R : Int → Int → Prop, ∀ [∀ x y, Decidable (R x y)], relM (nets c) R = [] := fun R _ => List.length_eq_zero_iff.1 (by rw [relM_len]; exact h0)
    rw [hm, hm, ← killAll_length H]
    exact (by (repeat' (first | exact trivial | exact LentV.rowL rfl rfl rfl | exact LentV.rowL rfl rfl (by assumption) | refine LentV.boxL rfl ?_ | exact LentV.nil _ | exact LentV.same _ | refine LentV.aggL ?_ | refine And.intro ?_ ?_)); (first | done | fail))
  · have lA := relM_len (nets c) (Apart c)
    have lB := relM_len (nets c) (Above c)
    rw [← killAll_length H]
    repeat' (first | exact trivial | exact LentV.rowL rfl rfl rfl | exact LentV.rowL rfl rfl lA.symm | exact LentV.rowL rfl rfl lB.symm | refine LentV.boxL rfl ?_ | refine And.intro ?_ ?_)
/-- What is known of the first t tracks. -/
structure PreT (ns : List Int) (tr : Mz) (t : Nat) : Prop where
  rows : ∀ s, s < t → tr.getD s [] ≠ [] ∧ (tr.getD s []).Pairwise (· < ·) ∧ ∀ x ∈ tr.getD s [], x ∈ ns
  once : (tr.take t).flatten.Nodup
/-- And of the first i numbers of the next. -/
structure PreI (ns : List Int) (tr : Mz) (t i : Nat) : Prop where
  pre : PreT ns tr t
  le : i ≤ (tr.getD t []).length
  asc : ((tr.getD t []).take i).Pairwise (· < ·)
  sub : ∀ x ∈ (tr.getD t []).take i, x ∈ ns
  once : ((tr.take t).flatten ++ (tr.getD t []).take i).Nodup
theorem PreT.start (ns : List Int) (tr : Mz) : PreT ns tr 0 := ⟨fun s hs => absurd hs (by omega), by simp⟩
theorem PreI.all {ns : List Int} {tr : Mz} {t i : Nat} (h : PreI ns tr t i) : ∀ x ∈ (tr.take t).flatten ++ (tr.getD t []).take i, x ∈ ns := fun x hx => by
  rcases List.mem_append.1 hx with hx | hx
  · obtain ⟨s, h1, h2, h3⟩ := of_take_flat hx
    exact (h.pre.rows s h1).2.2 x h3
  · exact h.sub x hx
theorem PreI.len {ns : List Int} {tr : Mz} {t i : Nat} (h : PreI ns tr t i) : (tr.take t).flatten.length + i ≤ ns.length := by
  have := nodup_le h.once h.all
  rw [List.length_append, List.length_take, Nat.min_eq_left h.le] at this
  exact this
theorem PreI.step {ns : List Int} {tr : Mz} {t i : Nat} (h : PreI ns tr t i) (hi : i < (tr.getD t []).length) (ha : 0 < i → (tr.getD t []).getD (i - 1) 0 < (tr.getD t []).getD i 0)
    (hx : (tr.getD t []).getD i 0 ∈ ns) (hne : ¬ (tr.getD t []).getD i 0 ∈ (tr.take t).flatten ++ (tr.getD t []).take i) : PreI ns tr t (i + 1) := by
  refine ⟨h.pre, hi, pw_step hi h.asc ha, fun x hm => ?_, ?_⟩
  · rw [take_snoc hi] at hm
    rcases List.mem_append.1 hm with hm | hm
    · exact h.sub x hm
    · rw [List.mem_singleton.1 hm]; exact hx
  · rw [take_snoc hi, ← List.append_assoc, List.nodup_append]
    exact ⟨h.once, by simp, fun a h1 b h2 e => hne (by rw [List.mem_singleton.1 h2] at e; rw [← e]; exact h1)⟩
theorem PreI.done {ns : List Int} {tr : Mz} {t : Nat} (ht : t < tr.length) (hne : tr.getD t [] ≠ []) (h : PreI ns tr t (tr.getD t []).length) : PreT ns tr (t + 1) := by
  have h1 := h.asc
  have h2 := h.sub
  have h3 := h.once
  rw [List.take_length] at h1 h2 h3
  refine ⟨fun s hs => ?_, by rw [flat_snoc ht]; exact h3⟩
  by_cases e : s = t
  · rw [e]; exact ⟨hne, h1, h2⟩
  · exact h.pre.rows s (by omega)
theorem PreT.all {ns : List Int} {tr : Mz} (h : PreT ns tr tr.length) : ∀ l ∈ tr, l ≠ [] ∧ l.Pairwise (· < ·) ∧ ∀ x ∈ l, x ∈ ns := fun l hl => by
  obtain ⟨s, hs, rfl⟩ := List.mem_iff_getElem.1 hl
  have := h.rows s hs
  have e : tr.getD s [] = tr[s] := by simp [List.getD, hs]
  rwa [e] at this
theorem PreT.nodup {ns : List Int} {tr : Mz} (h : PreT ns tr tr.length) : tr.flatten.Nodup := by
  have := h.once
  rwa [List.take_length] at this
end Go.Proofs.Ytdphlhplcmjepaa
end
section
set_option linter.unusedSimpArgs false
set_option linter.unusedVariables false
set_option maxHeartbeats 1000000
namespace Go.Proofs.Ytdphlhplcmjepaa
open Go.Eng
def idxI (ns : List Int) (x : Int) : Int := if x ∈ ns then (pos ns x : Int) else -1
theorem pos_of {ns : List Int} {x : Int} {i : Nat} (hi : i < ns.length) (h : x = ns.getD i 0) (hb : ∀ j, j < i → ¬ x = ns.getD j 0) : pos ns x = i := by
  have hm : x ∈ ns := h ▸ getD_mem' hi
  have h1 := pos_get hm
  have h2 := pos_lt hm
  rcases Nat.lt_trichotomy (pos ns x) i with h3 | h3 | h3
  · exact absurd h1.symm (hb _ h3)
  · exact h3
  · exfalso
    have h4 : i < ns.findIdx (· == x) := h3
    have h5 := List.not_of_lt_findIdx h4
    rw [getD_el hi] at h
    rw [← h] at h5
    simp at h5
/-- All numbers of all tracks are known. -/
def AllIn (ns : List Int) (tr : Mz) : Prop := ∀ l ∈ tr, ∀ x ∈ l, x ∈ ns
instance (ns : List Int) (tr : Mz) : Decidable (AllIn ns tr) := by unfold AllIn; exact inferInstance
end Go.Proofs.Ytdphlhplcmjepaa
end
section
set_option linter.unusedSimpArgs false
set_option linter.unusedVariables false
namespace Go.Proofs.Ytdphlhplcmjepaa
open Go.Eng
/-- A walk of so many steps. -/
inductive Wk (E : Int → Int → Prop) : Nat → Int → Int → Prop where
  | nil (a : Int) : Wk E 0 a a
  | step {n : Nat} {a b d : Int} (h : E a b) (k : Wk E n b d) : Wk E (n + 1) a d
section
variable {E : Int → Int → Prop}
theorem Wk.app {n m : Nat} {a b d : Int} (h : Wk E n a b) (k : Wk E m b d) : Wk E (n + m) a d := by
  induction h with
  | nil a => simpa using k
  | step h _ ih => rw [Nat.add_right_comm]; exact .step h (ih k)
theorem Wk.one {a b : Int} (h : E a b) : Wk E 1 a b := .step h (.nil b)
theorem Wk.inv {n : Nat} {a d : Int} (h : Wk E (n + 1) a d) : ∃ b, E a b ∧ Wk E n b d := by
  cases h with
  | step h k => exact ⟨_, h, k⟩
theorem Wk.zero {a d : Int} (h : Wk E 0 a d) : a = d := by cases h; rfl
/-- Along a list, each number leads to the next. -/
def Path (E : Int → Int → Prop) (L : List Int) : Prop := ∀ i, i + 1 < L.length → E (L.getD i 0) (L.getD (i + 1) 0)
theorem Path.wk {L : List Int} (h : Path E L) : ∀ (d i : Nat), i + d < L.length → Wk E d (L.getD i 0) (L.getD (i + d) 0)
  | 0, i, _ => .nil _
  | d + 1, i, hi => by
    have := Path.wk h d (i + 1) (by omega)
    rw [show i + 1 + d = i + (d + 1) by omega] at this
    exact .step (h i (by omega)) this
theorem getD_app_l {a b : List Int} {i : Nat} (h : i < a.length) : (a ++ b).getD i 0 = a.getD i 0 := by
  simp only [List.getD]; rw [List.getElem?_append_left h]
theorem getD_app_r {a b : List Int} {i : Nat} (h : a.length ≤ i) : (a ++ b).getD i 0 = b.getD (i - a.length) 0 := by
  simp only [List.getD]; rw [List.getElem?_append_right h]
theorem Path.snoc {L : List Int} {x : Int} (h : Path E L) (hx : L ≠ [] → E (L.getD (L.length - 1) 0) x) : Path E (L ++ [x]) := by
  intro i hi
  simp at hi
  by_cases e : i + 1 < L.length
  · rw [getD_app_l (by omega), getD_app_l e]; exact h i e
  · have e1 : i = L.length - 1 := by omega
    have hne : L ≠ [] := fun h0 => by rw [h0] at hi e; simp at hi
    rw [getD_app_l (by omega), getD_app_r (by omega), show i + 1 - L.length = 0 by omega, e1]
    exact hx hne
theorem Path.pre {L M : List Int} (h : Path E (L ++ M)) : Path E L := by
  intro i hi
  have := h i (by simp; omega)
  rwa [getD_app_l (by omega), getD_app_l hi] at this
/-- A ring: closed. -/
structure Ring (E : Int → Int → Prop) (n : Nat) (L : List Int) : Prop where
  len : L.length = n
  path : Path E L
  close : E (L.getD (n - 1) 0) (L.getD 0 0)
theorem Ring.wk {n : Nat} {L : List Int} (h : Ring E n L) (hn : 0 < n) : Wk E n (L.getD 0 0) (L.getD 0 0) := by
  have h1 := h.path.wk (n - 1) 0 (by rw [h.len]; omega)
  rw [Nat.zero_add] at h1
  have := h1.app (.one h.close)
  rwa [show n - 1 + 1 = n by omega] at this
/-- n is the least number of steps that lead back. -/
def Least (E : Int → Int → Prop) (n : Nat) : Prop := ∀ m v, 0 < m → Wk E m v v → n ≤ m
theorem Ring.simple {n : Nat} {L : List Int} (h : Ring E n L) (hl : Least E n) : L.Nodup := by
  rw [List.nodup_iff_pairwise_ne] <;> exact List.pairwise_iff_getElem.2 fun i j hi hj hij e => by
    have h1 := h.path.wk (j - i) i (by omega)
    rw [show i + (j - i) = j by omega] at h1
    have e1 : L.getD i 0 = L[i] := by simp [List.getD, hi]
    have e2 : L.getD j 0 = L[j] := by simp [List.getD, hj]
    rw [e1, e2, e] at h1
    have := hl _ _ (by omega) h1
    have := h.len
    omega
/-- The order of lists of one length. -/
def LexLe (a b : List Int) : Prop := a = b ∨ ∃ k, (∀ j, j < k → a.getD j 0 = b.getD j 0) ∧ a.getD k 0 < b.getD k 0
theorem LexLe.anti {a b : List Int} (h : LexLe a b) (k : LexLe b a) : a = b := by
  rcases h with h | ⟨i, h1, h2⟩
  · exact h
  · rcases k with k | ⟨j, k1, k2⟩
    · exact k.symm
    · exfalso
      rcases Nat.lt_trichotomy i j with h3 | h3 | h3
      · have := k1 i h3; omega
      · subst h3; omega
      · have := h1 j h3; omega
/-- The simple rings of a length among some numbers, that begin in a given way; the least of them. -/
structure SR (E : Int → Int → Prop) (ns : List Int) (n : Nat) (N R : List Int) : Prop extends Ring E n R where
  nodup : R.Nodup
  sub : ∀ x ∈ R, x ∈ ns
  pre : R.take N.length = N
structure LeastSR (E : Int → Int → Prop) (ns : List Int) (n : Nat) (N R : List Int) : Prop extends SR E ns n N R where
  least : ∀ R', SR E ns n N R' → LexLe R R'
theorem LeastSR.unique {ns N R R' : List Int} {n : Nat} (h : LeastSR E ns n N R) (h' : LeastSR E ns n N R') : R = R' := LexLe.anti (h.least R' h'.toSR) (h'.least R h.toSR)
theorem SR.next {ns N R : List Int} {n : Nat} (h : SR E ns n N R) (hl : N.length < n) : SR E ns n (N ++ [R.getD N.length 0]) R :=
  ⟨h.toRing, h.nodup, h.sub, by
    rw [List.length_append, List.length_singleton, take_snoc (by rw [h.len]; exact hl), h.pre]⟩
theorem SR.up {ns N R : List Int} {n : Nat} {x : Int} (h : SR E ns n (N ++ [x]) R) : SR E ns n N R ∧ R.getD N.length 0 = x := by
  have hp := h.pre
  have hl : N.length < R.length := by
    rcases Nat.lt_or_ge N.length R.length with h1 | h1
    · exact h1
    · have := congrArg List.length hp
      simp at this; omega
  rw [List.length_append, List.length_singleton, take_snoc hl] at hp
  obtain ⟨h1, h2⟩ := List.append_inj hp (by simp; omega)
  exact ⟨⟨h.toRing, h.nodup, h.sub, h1⟩, by simpa using h2⟩
theorem SR.get {ns N R : List Int} {n : Nat} (h : SR E ns n N R) {j : Nat} (hj : j < N.length) : R.getD j 0 = N.getD j 0 := by
  have : (R.take N.length).getD j 0 = N.getD j 0 := by rw [h.pre]
  rw [← this]
  simp [List.getD, hj]
/-- The least among those that go on with x is the least of all, if none goes on with less. -/
theorem LeastSR.up {ns N R : List Int} {n : Nat} {x : Int} (hl : N.length < n) (h : LeastSR E ns n (N ++ [x]) R) (hx : ∀ R', SR E ns n N R' → x ≤ R'.getD N.length 0) : LeastSR E ns n N R := by
  obtain ⟨h1, h2⟩ := h.toSR.up
  refine ⟨h1, fun R' h' => ?_⟩
  by_cases e : R'.getD N.length 0 = x
  · have := h'.next hl
    rw [e] at this
    exact h.least R' this
  · have := hx R' h'
    refine .inr ⟨N.length, fun j hj => ?_, by omega⟩
    rw [h1.get hj, h'.get hj]
end
end Go.Proofs.Ytdphlhplcmjepaa
end
section
set_option linter.unusedSimpArgs false
set_option linter.unusedVariables false
namespace Go.Proofs.Ytdphlhplcmjepaa
open Go.Eng
section
variable {E : Int → Int → Prop}
theorem Wk.list {n : Nat} {a b : Int} (h : Wk E n a b) : ∃ L : List Int, L.length = n + 1 ∧ L.getD 0 0 = a ∧ L.getD n 0 = b ∧ Path E L := by
  induction h with
  | nil a => exact ⟨[a], rfl, rfl, rfl, fun i hi => by simp at hi⟩
  | @step n a b d h k ih =>
    obtain ⟨L, h1, h2, h3, h4⟩ := ih
    refine ⟨a :: L, by simp [h1], rfl, by simpa using h3, fun i hi => ?_⟩
    cases i with
    | zero => have e : (a :: L).getD (0 + 1) 0 = L.getD 0 0 := rfl
              rw [e, h2]; exact h
    | succ i =>
      have := h4 i (by simp at hi; omega)
      simpa using this
theorem Wk.ring {n : Nat} {v : Int} (hn : 0 < n) (h : Wk E n v v) : ∃ L, Ring E n L ∧ L.getD 0 0 = v := by
  obtain ⟨L, h1, h2, h3, h4⟩ := h.list
  have hg : ∀ j, j < n → (L.take n).getD j 0 = L.getD j 0 := fun j hj => by simp [List.getD, hj]
  refine ⟨L.take n, ⟨by simp; omega, fun i hi => ?_, ?_⟩, by rw [hg 0 hn, h2]⟩
  · have hi' : i + 1 < n := by simp at hi; omega
    rw [hg _ (by omega), hg _ hi']
    exact h4 i (by omega)
  · rw [hg _ (by omega), hg 0 hn, h2]
    have := h4 (n - 1) (by omega)
    rwa [show n - 1 + 1 = n by omega, h3] at this
/-- How far a place is, by each number 0 .. 12; -1 if it is not reached. -/
def FarOk (E : Int → Int → Prop) (to : Int) (far : List Int) : Prop := far.length = 13 ∧
  ∀ v : Int, 0 ≤ v → v ≤ 12 → (-1 ≤ far.getD v.toNat 0 ∧ far.getD v.toNat 0 ≤ 12) ∧ (0 ≤ far.getD v.toNat 0 → Wk E (far.getD v.toNat 0).toNat v to) ∧ ∀ m, Wk E m v to → 0 ≤ far.getD v.toNat 0 ∧ far.getD v.toNat 0 ≤ m
/-- The least ring's length; 0 if there is none. -/
def ShortOk (E : Int → Int → Prop) (n : Nat) : Prop := (n = 0 ∧ ∀ m v, 0 < m → ¬ Wk E m v v) ∨ (0 < n ∧ (∃ v, Wk E n v v) ∧ Least E n)
/-- What is known of a ring while it grows greedily. -/
structure Grow (E : Int → Int → Prop) (ns : List Int) (n : Nat) (i : Int) (out : List Int) : Prop where
  len : 0 < out.length ∧ out.length ≤ n
  head : out.getD 0 0 = i
  path : Path E out
  sub : ∀ x ∈ out, 0 ≤ x ∧ x ≤ 12
  lex : ∀ R, SR E ns n [] R → R.getD 0 0 = i → (∀ j, j < out.length → out.getD j 0 = R.getD j 0) ∨ ∃ k, k < out.length ∧ (∀ j, j < k → out.getD j 0 = R.getD j 0) ∧ out.getD k 0 < R.getD k 0
  back : Wk E n i i → Wk E (n - out.length + 1) (out.getD (out.length - 1) 0) i
theorem Grow.start {ns : List Int} {n : Nat} {i : Int} (hn : 0 < n) (hi : 0 ≤ i ∧ i ≤ 12) : Grow E ns n i [i] :=
  ⟨⟨by simp, by simp; omega⟩, rfl, fun j hj => by simp at hj, fun x hx => by rw [List.mem_singleton.1 hx]; exact hi, fun R _ h => .inl (fun j hj => by
    have : j = 0 := by simpa using hj
    subst this; exact h.symm), fun h => by
    have e : n - [i].length + 1 = n := by simp; omega
    rw [e]; exact h⟩
/-- A number that may come next. -/
def Cand (E : Int → Int → Prop) (n : Nat) (i : Int) (far out : List Int) (j : Int) : Prop := E (out.getD (out.length - 1) 0) j ∧ (0 ≤ far.getD j.toNat 0 ∧ far.getD j.toNat 0 ≤ (n : Int) - out.length) ∧ j ≠ i
/-- The closed walk through a candidate. -/
theorem Grow.dist {ns : List Int} {n : Nat} {i : Int} {far out : List Int} (hE : ∀ a b, E a b → (0 ≤ a ∧ a ≤ 12) ∧ 0 ≤ b ∧ b ≤ 12) (g : Grow E ns n i out) (hf : FarOk E i far) (hl : Least E n) (hlt : out.length < n) {j : Int} (h : Cand E n i far out j) :
    Wk E (n - out.length) j i := by
  obtain ⟨h1, h2, h3⟩ := h
  have hb := (hE _ _ h1).2
  obtain ⟨_, f2, _⟩ := hf.2 j hb.1 hb.2
  have w1 := f2 h2.1
  have w2 := g.path.wk (out.length - 1) 0 (by have := g.len; omega)
  rw [Nat.zero_add, g.head] at w2
  have w3 := (w2.app (.one h1)).app w1
  have := hl _ _ (by omega) w3
  have e : (far.getD j.toNat 0).toNat = n - out.length := by have := g.len; omega
  rwa [e] at w1
theorem Grow.cand {ns : List Int} {n : Nat} {i : Int} {far out : List Int} (hE : ∀ a b, E a b → (0 ≤ a ∧ a ≤ 12) ∧ 0 ≤ b ∧ b ≤ 12) (g : Grow E ns n i out) (hf : FarOk E i far) (hl : Least E n) (hlt : out.length < n) {j : Int}
    (h1 : E (out.getD (out.length - 1) 0) j) (hw : Wk E (n - out.length) j i) : Cand E n i far out j := by
  have hb := (hE _ _ h1).2
  obtain ⟨_, _, f3⟩ := hf.2 j hb.1 hb.2
  have := f3 _ hw
  have hlen := g.len
  refine ⟨h1, ⟨this.1, by omega⟩, fun e => ?_⟩
  have w2 := g.path.wk (out.length - 1) 0 (by omega)
  rw [Nat.zero_add, g.head] at w2
  have w3 := w2.app (.one h1)
  rw [e] at w3
  have := hl _ _ (by omega) w3
  omega
/-- Of a ring that begins as what has grown, what comes next is a candidate. -/
theorem Grow.next {ns : List Int} {n : Nat} {i : Int} {far out R : List Int} (hE : ∀ a b, E a b → (0 ≤ a ∧ a ≤ 12) ∧ 0 ≤ b ∧ b ≤ 12) (g : Grow E ns n i out) (hf : FarOk E i far) (hl : Least E n) (hlt : out.length < n) (hR : SR E ns n [] R)
    (h0 : R.getD 0 0 = i) (hp : ∀ j, j < out.length → out.getD j 0 = R.getD j 0) : Cand E n i far out (R.getD out.length 0) := by
  have hlen := g.len
  have h1 := hR.path (out.length - 1) (by rw [hR.len]; omega)
  rw [show out.length - 1 + 1 = out.length by omega, ← hp _ (by omega)] at h1
  have w := hR.path.wk (n - 1 - out.length) out.length (by rw [hR.len]; omega)
  rw [show out.length + (n - 1 - out.length) = n - 1 by omega] at w
  have w2 := w.app (.one hR.close)
  rw [show n - 1 - out.length + 1 = n - out.length by omega, h0] at w2
  exact g.cand hE hf hl hlt h1 w2
theorem Grow.step {ns : List Int} {n : Nat} {i : Int} {far out : List Int} (hE : ∀ a b, E a b → (0 ≤ a ∧ a ≤ 12) ∧ 0 ≤ b ∧ b ≤ 12) (g : Grow E ns n i out) (hf : FarOk E i far) (hl : Least E n) (hlt : out.length < n) {j : Int} (h : Cand E n i far out j)
    (hmin : ∀ j', Cand E n i far out j' → j ≤ j') : Grow E ns n i (out ++ [j]) := by
  have hlen := g.len
  have hd := g.dist hE hf hl hlt h
  have hL : (out ++ [j]).length = out.length + 1 := by simp
  have gl : ∀ k, k < out.length → (out ++ [j]).getD k 0 = out.getD k 0 := fun k hk => getD_app_l hk
  have gr : (out ++ [j]).getD out.length 0 = j := by rw [getD_app_r (Nat.le_refl _)]; simp
  refine ⟨by rw [hL]; omega, by rw [gl 0 (by omega)]; exact g.head, g.path.snoc (fun _ => h.1), fun x hx => ?_, fun R hR h0 => ?_, fun hw => ?_⟩
  · rcases List.mem_append.1 hx with hx | hx
    · exact g.sub x hx
    · rw [List.mem_singleton.1 hx]; exact (hE _ _ h.1).2
  · rcases g.lex R hR h0 with h1 | ⟨k, k1, k2, k3⟩
    · have := hmin _ (g.next hE hf hl hlt hR h0 h1)
      by_cases e : j = R.getD out.length 0
      · refine .inl (fun q hq => ?_)
        by_cases e2 : q = out.length
        · rw [e2, gr]; exact e
        · rw [gl q (by omega)]; exact h1 q (by omega)
      · refine .inr ⟨out.length, by omega, fun q hq => by rw [gl q hq]; exact h1 q hq, by rw [gr]; omega⟩
    · exact .inr ⟨k, by omega, fun q hq => by rw [gl q (by omega)]; exact k2 q hq, by rw [gl k k1]; exact k3⟩
  · rw [hL, show out.length + 1 - 1 = out.length by omega, gr, show n - (out.length + 1) + 1 = n - out.length by omega]
    exact hd
/-- Where nothing may come next, no ring begins here. -/
theorem Grow.stuck {ns : List Int} {n : Nat} {i : Int} {far out : List Int} (hE : ∀ a b, E a b → (0 ≤ a ∧ a ≤ 12) ∧ 0 ≤ b ∧ b ≤ 12) (g : Grow E ns n i out) (hf : FarOk E i far) (hl : Least E n) (hlt : out.length < n) (h : ∀ j, ¬ Cand E n i far out j) : ¬ Wk E n i i := fun hw => by
  have hb := g.back hw
  obtain ⟨j, h1, h2⟩ := hb.inv
  exact h j (g.cand hE hf hl hlt h1 h2)
theorem Grow.done {ns : List Int} {n : Nat} {i : Int} {out : List Int} (hE : ∀ a b, E a b → a ∈ ns ∧ b ∈ ns) (g : Grow E ns n i out) (hl : Least E n) (hlen : out.length = n) (hc : E (out.getD (n - 1) 0) i)
    (hmin : ∀ R, SR E ns n [] R → i ≤ R.getD 0 0) : LeastSR E ns n [] out := by
  have hr : Ring E n out := ⟨hlen, g.path, by rw [g.head]; exact hc⟩
  refine ⟨⟨hr, hr.simple hl, fun x hx => ?_, rfl⟩, fun R hR => ?_⟩
  · obtain ⟨q, q1, rfl⟩ := mem_getD hx
    by_cases e : q + 1 < out.length
    · exact (hE _ _ (g.path q e)).1
    · have : q = n - 1 := by omega
      rw [this]; exact (hE _ _ hc).1
  · by_cases e : R.getD 0 0 = i
    · rcases g.lex R hR e with h1 | ⟨k, k1, k2, k3⟩
      · refine .inl ?_
        apply List.ext_getElem (by rw [hR.len, hlen])
        intro q q1 q2
        have := h1 q q1
        simpa [List.getD, q1, q2] using this
      · exact .inr ⟨k, k2, k3⟩
    · refine .inr ⟨0, fun j hj => absurd hj (by omega), ?_⟩
      have := hmin R hR
      rw [g.head]; omega
/-- A shortest closed walk is a simple ring among the numbers that have steps. -/
theorem Least.sr {ns : List Int} {n : Nat} (hE : ∀ a b, E a b → a ∈ ns ∧ b ∈ ns) (hn : 0 < n) (hl : Least E n) {v : Int} (h : Wk E n v v) : ∃ R, SR E ns n [] R := by
  obtain ⟨L, h1, _⟩ := h.ring hn
  refine ⟨L, h1, h1.simple hl, fun x hx => ?_, rfl⟩
  obtain ⟨q, q1, rfl⟩ := mem_getD hx
  by_cases e : q + 1 < L.length
  · exact (hE _ _ (h1.path q e)).1
  · have : q = n - 1 := by have := h1.len; omega
    rw [this]; exact (hE _ _ h1.close).1
end
end Go.Proofs.Ytdphlhplcmjepaa
end
section
set_option linter.unusedSimpArgs false
set_option linter.unusedVariables false
namespace Go.Proofs.Ytdphlhplcmjepaa
open Go.Eng
/-- How many are known. -/
def asg (out : List Int) : Nat := out.countP fun x => decide (0 ≤ x)
theorem asg_le (out : List Int) : asg out ≤ out.length := List.countP_le_length
theorem asg_set {out : List Int} {i : Nat} {d : Int} (h : i < out.length) (h0 : out.getD i 0 < 0) (hd : 0 ≤ d) : asg (out.set i d) = asg out + 1 := by
  have e : out.getD i 0 = out[i] := by simp [List.getD, h]
  unfold asg
  rw [List.countP_set h]
  rw [e] at h0
  rw [if_neg (by simpa using h0), if_pos (by simpa using hd), Nat.sub_zero]
theorem getD_set_eq {out : List Int} {i : Nat} {d : Int} (h : i < out.length) : (out.set i d).getD i 0 = d := by simp [List.getD, h]
theorem getD_set_ne {out : List Int} {i j : Nat} {d : Int} (h : i ≠ j) : (out.set i d).getD j 0 = out.getD j 0 := by simp [List.getD, List.getElem?_set_ne h]
section
variable {E : Int → Int → Prop}
/-- What is known in the midst of a search. -/
structure Bfs (E : Int → Int → Prop) (to : Int) (out todo : List Int) : Prop where
  len : out.length = 13
  low : ∀ v : Nat, v < 13 → -1 ≤ out.getD v 0
  wk : ∀ v : Nat, v < 13 → 0 ≤ out.getD v 0 → Wk E (out.getD v 0).toNat (v : Int) to
  todoOk : ∀ v ∈ todo, (0 ≤ v ∧ v ≤ 12) ∧ 0 ≤ out.getD v.toNat 0
  sorted : todo.Pairwise fun a b => out.getD a.toNat 0 ≤ out.getD b.toNat 0
  head : todo ≠ [] → ∀ v : Nat, v < 13 → out.getD v 0 ≤ out.getD (todo.getD 0 0).toNat 0 + 1
  done : ∀ v : Nat, v < 13 → 0 ≤ out.getD v 0 → ¬ (v : Int) ∈ todo → ∀ i : Nat, i < 13 → E (i : Int) (v : Int) → 0 ≤ out.getD i 0 ∧ out.getD i 0 ≤ out.getD v 0 + 1
  dest : out.getD to.toNat 0 = 0
  cnt : ∀ v : Nat, v < 13 → out.getD v 0 + 1 ≤ asg out
theorem Bfs.le {to : Int} {out todo : List Int} (h : Bfs E to out todo) {v : Nat} (hv : v < 13) : out.getD v 0 ≤ 12 := by
  have h1 := h.cnt v hv
  have h2 := asg_le out
  have h3 := h.len
  omega
theorem rep_get {v : Nat} (h : v < 13) : (List.replicate 13 (-1 : Int)).getD v 0 = -1 := by rw [List.getD, List.getElem?_replicate, if_pos h]; rfl
theorem Bfs.start {to : Int} (h0 : 0 ≤ to) (h1 : to ≤ 12) : Bfs E to ((List.replicate 13 (-1 : Int)).set to.toNat 0) [to] := by
  have hl : (List.replicate 13 (-1 : Int)).length = 13 := by simp
  have ht : to.toNat < (List.replicate 13 (-1 : Int)).length := by rw [hl]; omega
  have hg : ∀ v : Nat, v < 13 → ((List.replicate 13 (-1 : Int)).set to.toNat 0).getD v 0 = if v = to.toNat then 0 else -1 := fun v hv => by
    by_cases e : v = to.toNat
    · rw [if_pos e, e, getD_set_eq ht]
    · rw [if_neg e, getD_set_ne (fun h => e h.symm), rep_get hv]
  refine ⟨by simp, fun v hv => ?_, fun v hv h => ?_, fun v hv => ?_, by simp, fun _ v hv => ?_, fun v hv h hn => ?_, ?_, fun v hv => ?_⟩
  · rw [hg v hv]; split <;> omega
  · rw [hg v hv] at h ⊢
    by_cases e : v = to.toNat
    · rw [if_pos e]
      have : (v : Int) = to := by omega
      rw [this]; exact .nil to
    · rw [if_neg e] at h; omega
  · rw [List.mem_singleton.1 hv]
    refine ⟨⟨h0, h1⟩, ?_⟩
    rw [getD_set_eq ht]; exact Int.le_refl _
  · rw [hg v hv]
    show _ ≤ ((List.replicate 13 (-1 : Int)).set to.toNat 0).getD to.toNat 0 + 1
    rw [getD_set_eq ht]; split <;> omega
  · rw [hg v hv] at h
    by_cases e : v = to.toNat
    · exact absurd (by rw [show (v : Int) = to by omega]; simp) hn
    · rw [if_neg e] at h; omega
  · rw [getD_set_eq ht]
  · have : asg ((List.replicate 13 (-1 : Int)).set to.toNat 0) = asg (List.replicate 13 (-1 : Int)) + 1 := asg_set ht (by rw [rep_get (by omega)]; omega) (by omega)
    rw [this, hg v hv]; split <;> omega
/-- One more is found. -/
theorem Bfs.add {to : Int} {out todo : List Int} (h : Bfs E to out todo) {t : Int} (hne : todo ≠ []) (ht : todo.getD 0 0 = t) {i : Nat} (hi : i < 13) (he : E (i : Int) t) (h0 : out.getD i 0 < 0) :
    Bfs E to (out.set i (out.getD t.toNat 0 + 1)) (todo ++ [(i : Int)]) := by
  have hil : i < out.length := by rw [h.len]; exact hi
  have hm : t ∈ todo := by
    rw [← ht]
    match todo, hne with
    | a :: r, _ => exact List.mem_cons_self
  obtain ⟨⟨ht0, ht1⟩, hta⟩ := h.todoOk t hm
  have hhead := h.head hne
  rw [ht] at hhead
  have hni : ∀ v : Nat, 0 ≤ out.getD v 0 → v ≠ i := fun v hv e => by rw [e] at hv; omega
  have hset : ∀ v : Nat, v ≠ i → (out.set i (out.getD t.toNat 0 + 1)).getD v 0 = out.getD v 0 := fun v hv => getD_set_ne (fun e => hv e.symm)
  have hat : (out.set i (out.getD t.toNat 0 + 1)).getD i 0 = out.getD t.toNat 0 + 1 := getD_set_eq hil
  have hasg := asg_set hil h0 (show 0 ≤ out.getD t.toNat 0 + 1 by omega)
  have hh : (todo ++ [(i : Int)]).getD 0 0 = t := by
    rw [← ht]
    match todo, hne with
    | a :: r, _ => rfl
  refine ⟨by simp [h.len], fun v hv => ?_, fun v hv g => ?_, fun v hv => ?_, ?_, fun _ v hv => ?_, fun v hv g hn j hj hE => ?_, ?_, fun v hv => ?_⟩
  · by_cases e : v = i
    · rw [e, hat]; omega
    · rw [hset v e]; exact h.low v hv
  · by_cases e : v = i
    · rw [e, hat, show (out.getD t.toNat 0 + 1).toNat = (out.getD t.toNat 0).toNat + 1 by omega]
      have := h.wk t.toNat (by omega) hta
      rw [show ((t.toNat : Nat) : Int) = t by omega] at this
      exact .step he this
    · rw [hset v e] at g ⊢; exact h.wk v hv g
  · rcases List.mem_append.1 hv with hv | hv
    · obtain ⟨g1, g2⟩ := h.todoOk v hv
      exact ⟨g1, by rw [hset _ (hni _ g2)]; exact g2⟩
    · rw [List.mem_singleton.1 hv]
      refine ⟨by omega, ?_⟩
      rw [Int.toNat_natCast, hat]; omega
  · rw [List.pairwise_append]
    refine ⟨h.sorted.imp_of_mem fun {a b} ha hb g => ?_, by simp, fun a ha b hb => ?_⟩
    · rw [hset _ (hni _ (h.todoOk a ha).2), hset _ (hni _ (h.todoOk b hb).2)]; exact g
    · rw [List.mem_singleton.1 hb, Int.toNat_natCast, hat, hset _ (hni _ (h.todoOk a ha).2)]
      exact hhead a.toNat (by have := (h.todoOk a ha).1; omega)
  · rw [hh, hset _ (hni _ hta)]
    by_cases e : v = i
    · rw [e, hat]; exact Int.le_refl _
    · rw [hset v e]; exact hhead v hv
  · have hvi : v ≠ i := fun e => hn (by rw [e]; simp)
    rw [hset v hvi] at g ⊢
    have g2 := h.done v hv g (fun hm => hn (List.mem_append_left _ hm)) j hj hE
    rw [hset j (hni j g2.1)]; exact g2
  · rw [hset _ (hni _ (by rw [h.dest]; omega))]; exact h.dest
  · rw [hasg]
    by_cases e : v = i
    · rw [e, hat]
      have := h.cnt t.toNat (by omega)
      omega
    · rw [hset v e]
      have := h.cnt v hv
      omega
/-- The first is looked at. -/
theorem Bfs.pop {to t : Int} {out rest : List Int} (h : Bfs E to out (t :: rest)) (hall : ∀ i : Nat, i < 13 → E (i : Int) t → 0 ≤ out.getD i 0) : Bfs E to out rest := by
  have hs := List.pairwise_cons.1 h.sorted
  have hh := h.head (by simp)
  refine ⟨h.len, h.low, h.wk, fun v hv => h.todoOk v (List.mem_cons_of_mem _ hv), hs.2, fun hne v hv => ?_, fun v hv g hn i hi he => ?_, h.dest, h.cnt⟩
  · have h1 := hh v hv
    match rest, hne with
    | b :: r, _ =>
      have h2 := hs.1 b (by simp)
      show _ ≤ out.getD b.toNat 0 + 1
      have h3 : (t :: b :: r).getD 0 0 = t := rfl
      rw [h3] at h1
      omega
  · by_cases e : (v : Int) = t
    · rw [e] at he
      refine ⟨hall i hi he, ?_⟩
      have h1 := hh i hi
      have h3 : (t :: rest).getD 0 0 = t := rfl
      rw [h3, ← e, Int.toNat_natCast] at h1
      exact h1
    · exact h.done v hv g (fun hm => (List.mem_cons.1 hm).elim e hn) i hi he
/-- All is found. -/
theorem Bfs.far {to : Int} {out : List Int} (hE : ∀ a b, E a b → (0 ≤ a ∧ a ≤ 12) ∧ 0 ≤ b ∧ b ≤ 12) (h : Bfs E to out []) (h0 : 0 ≤ to) (h1 : to ≤ 12) : FarOk E to out := by
  refine ⟨h.len, fun v hv0 hv1 => ⟨⟨h.low _ (by omega), h.le (by omega)⟩, fun g => ?_, fun m hw => ?_⟩⟩
  · have := h.wk v.toNat (by omega) g
    rwa [show ((v.toNat : Nat) : Int) = v by omega] at this
  · induction m generalizing v with
    | zero =>
      have := hw.zero
      rw [this, h.dest]; omega
    | succ m ih =>
      obtain ⟨b, e1, e2⟩ := hw.inv
      obtain ⟨_, hb0, hb1⟩ := hE _ _ e1
      have h2 := ih b hb0 hb1 e2
      have h3 := h.done b.toNat (by omega) h2.1 (by simp) v.toNat (by omega) (by
        rw [show ((v.toNat : Nat) : Int) = v by omega, show ((b.toNat : Nat) : Int) = b by omega]; exact e1)
      omega
end
end Go.Proofs.Ytdphlhplcmjepaa
end
section
set_option linter.unusedSimpArgs false
set_option linter.unusedVariables false
set_option maxHeartbeats 2000000
namespace Go.Proofs.Ytdphlhplcmjepaa
open Go.Eng
theorem mul95_ac (H : List ABox) : AC Try.prog 95 [.v (.int .u64 1), .v (.int .u64 13)] H (fun r H' => r = .tup [.v (.int .u64 0), .v (.int .u64 13)] ∧ H' = H) := by
  have a1 : bitAnd .u64 1 4294967295 = 1 := by decide
  have a2 : bitAnd .u64 13 4294967295 = 13 := by decide
  have a3 : bitAnd .u64 0 4294967295 = 0 := by decide
  have s1 : (1 : Int).fdiv (2 ^ (min (Int.toNat 32) IntKind.u64.bits)) = 0 := by decide
  have s2 : (13 : Int).fdiv (2 ^ (min (Int.toNat 32) IntKind.u64.bits)) = 0 := by decide
  have s3 : (0 : Int).fdiv (2 ^ (min (Int.toNat 32) IntKind.u64.bits)) = 0 := by decide
  have m1 : IntKind.u64.wrap (1 * 13) = 13 := by decide
  have m2 : IntKind.u64.wrap (0 * 13) = 0 := by decide
  have m3 : IntKind.u64.wrap (0 + 0) = 0 := by decide
  have m4 : IntKind.u64.wrap (1 * 0) = 0 := by decide
  have m5 : IntKind.u64.wrap (0 * 0) = 0 := by decide
  refine AC.enter envOk Try.func95 rfl (by decide) Try.ntmps95 Try.results95 (by simp) fun hB => ?_
  repeat' (first | (with_reducible first | refine AW.sreg envOk fun K hK => ?_ | refine AW.region envOk fun K hK => ?_ | refine vcL_nil ?_) | (with_reducible (first | refine vcL_cons fun K' hK' => ?_); simp only [isC, Bool.false_or, Bool.or_true, ↓reduceDIte, List.take_length, Nat.le_refl, List.drop_zero, vGuard, undef, Bool.not_eq_eq_eq_not, dstOk, vcOp, vcF, isPure, putS, vcCall, St.ev, St.put, lk, AVal.ofVal, initS, Nat.reduceLT, true_and, and_true, vBin, vPart, vLoad, AVal.flat, AVal.cell, cellsOk, setRange, ETy.enc, ETy.dec, ETy.sz, ETy.d, cond, Nat.reduceBEq, Nat.reduceAdd, Int.toNat_natCast, List.length_set, List.length_append, List.length_replicate, List.length_take, Nat.reduceSub, Nat.reduceEqDiff, get_loc, setBox_loc, next_eq, List.length_cons, List.length_nil, List.map_cons, List.map_nil, List.append_nil, List.nil_append, List.cons_append, List.set_cons_zero, List.set_cons_succ, getD_zero, getD_succ, List.getElem?_cons_succ, List.getElem?_cons_zero, List.take_succ_cons, List.take_zero, List.drop_succ_cons, List.all_cons, List.all_nil, Bool.and_true, Bool.true_and, Option.bind_some, Option.map_some, Option.map_none, decide_eq_true_eq, decide_eq_false_iff_not, ne_eq, Bool.not_eq_true, Bool.not_eq_false, Decidable.not_not, not_true_eq_false, not_false_eq_true, forall_const, false_implies, Bool.true_eq_false, Bool.false_eq_true, reduceCtorEq, decide_true, decide_false, Bool.not_true, Bool.not_false, if_true, if_false, Nat.zero_add, Nat.lt_irrefl, Value.oneCell', gt_iff_lt, Nat.reduceLeDiff, Nat.lt_add_one, vvar_112, vzero_112, vknd_112, vsn_112, a1, a2, a3, s1, s2, s3, m1, m2, m3, m4, m5]; try simp (disch := omega) only [wrap64]) | (with_reducible refine hK' _ ?_; clear hK' K') | (with_reducible refine hK _ ?_; clear hK K) | (with_reducible first | refine And.intro (And.intro rfl rfl) ?_ | refine And.intro (by omega) ?_) | (with_reducible refine And.intro (fun hg => ?_) (fun hg => ?_) <;> first | simp only [eq_false hg, decide_true, decide_false, and_true, true_and, and_false, false_and, not_true_eq_false, not_false_eq_true] | simp only [eq_true hg, decide_true, decide_false, and_true, true_and, and_false, false_and, not_true_eq_false, not_false_eq_true] | simp only [hg, decide_true, decide_false, and_true, true_and, and_false, false_and, not_true_eq_false, not_false_eq_true]) | (with_reducible first | refine And.intro rfl (And.intro rfl rfl) | refine thenQ_n ?_ | refine thenQ_exit ?_ | refine thenQ_ret ?_ | refine midQ_ret ?_ | refine midQ_exit ?_ | refine blockQ_same ?_ | refine blockQ_ne (by decide) ?_ | refine blockQ_ret ?_ | refine blockQ_n ?_ | refine AW.exit ?_ | refine AW.block ?_ | refine AW.cond_t rfl ?_ | refine AW.cond_f rfl ?_ | refine AW.cond_dec rfl (fun hc => ?_) (fun hc => ?_)) | (with_reducible refine AW.cond rfl (fun hc => ?_) (fun hc => ?_) <;> try simp only [Bool.not_eq_eq_eq_not, Bool.not_true, Bool.not_false, decide_eq_true_eq, decide_eq_false_iff_not] at hc) | (with_reducible first | refine AW.seq ?_ | refine AW.skip ?_ | refine AW.ret ?_ | refine And.intro ?_ ?_) | (with_reducible intro hg; first | simp only [eq_false hg, decide_true, decide_false, and_true, true_and, and_false, false_and, not_true_eq_false, not_false_eq_true] | simp only [eq_true hg, decide_true, decide_false, and_true, true_and, and_false, false_and, not_true_eq_false, not_false_eq_true]) | (with_reducible refine retQ_drop ?_; simp only [vRes, packRes, vLoad, vPart, lk, cond, Nat.reduceBEq, get_loc, getD_zero, getD_succ, true_and, List.length_cons, List.length_nil, Nat.reduceAdd, Nat.reduceLT, Nat.reduceLeDiff, List.take_succ_cons, List.take_zero, List.drop_succ_cons, List.drop_zero, vvar_112, vzero_112, vknd_112, vsn_112]) )
  all_goals first
    | exact ⟨_, _, FinOk.drop hB (Pl.ids (by (repeat' (first | exact Pl.v _ | exact Pl.junk | exact Pl.rd rfl _ | exact pl_nil | refine pl_cons ?_ ?_ | refine Pl.agg ?_ | refine Pl.tup ?_ | refine Pl.rp ?_ | refine Pl.fn ?_)); (first | done | fail))), rfl, rfl⟩
    | fail
theorem mul93_ac (H : List ABox) : AC Try.prog 93 [.v (.int .u64 1), .v (.int .u64 13)] H (fun r H' => r = .tup [.v (.int .u64 0), .v (.int .u64 13)] ∧ H' = H) := by
  refine AC.enter envOk Try.func93 rfl (by decide) Try.ntmps93 Try.results93 (by simp) fun hB => ?_
  repeat' (first | (with_reducible first | refine AW.sreg envOk fun K hK => ?_ | refine AW.region envOk fun K hK => ?_ | refine vcL_nil ?_) | (with_reducible (first | refine vcL_cons fun K' hK' => ?_); simp only [isC, Bool.false_or, Bool.or_true, ↓reduceDIte, List.take_length, Nat.le_refl, List.drop_zero, vGuard, undef, Bool.not_eq_eq_eq_not, dstOk, vcOp, vcF, isPure, putS, vcCall, St.ev, St.put, lk, AVal.ofVal, initS, Nat.reduceLT, true_and, and_true, vConv, vPart, vLoad, vExt, AVal.flat, AVal.cell, cellsOk, setRange, ETy.enc, ETy.dec, ETy.sz, ETy.d, cond, Nat.reduceBEq, Nat.reduceAdd, Int.toNat_natCast, List.length_set, List.length_append, List.length_replicate, List.length_take, Nat.reduceSub, Nat.reduceEqDiff, get_loc, setBox_loc, next_eq, List.length_cons, List.length_nil, List.map_cons, List.map_nil, List.append_nil, List.nil_append, List.cons_append, List.set_cons_zero, List.set_cons_succ, getD_zero, getD_succ, List.getElem?_cons_succ, List.getElem?_cons_zero, List.take_succ_cons, List.take_zero, List.drop_succ_cons, List.all_cons, List.all_nil, Bool.and_true, Bool.true_and, Option.bind_some, Option.map_some, Option.map_none, decide_eq_true_eq, decide_eq_false_iff_not, ne_eq, Bool.not_eq_true, Bool.not_eq_false, Decidable.not_not, not_true_eq_false, not_false_eq_true, forall_const, false_implies, Bool.true_eq_false, Bool.false_eq_true, reduceCtorEq, decide_true, decide_false, Bool.not_true, Bool.not_false, if_true, if_false, Nat.zero_add, Nat.lt_irrefl, Value.oneCell', gt_iff_lt, Nat.reduceLeDiff, Nat.lt_add_one, vvar_106, vzero_106, vknd_106, vsn_106, vvar_109, vzero_109, vknd_109, vsn_109, vvar_112, vzero_112, vknd_112, vsn_112]; try simp (disch := omega) only [wrap64]) | (with_reducible refine hK' _ ?_; clear hK' K') | (with_reducible refine hK _ ?_; clear hK K) | ((with_reducible show vCall _ (AVal.fn 95 _) _ _ _); refine vCall_pure (mul95_ac _) ?_) | (with_reducible first | refine And.intro (And.intro rfl rfl) ?_ | refine And.intro (by omega) ?_) | (with_reducible refine And.intro (fun hg => ?_) (fun hg => ?_) <;> first | simp only [eq_false hg, decide_true, decide_false, and_true, true_and, and_false, false_and, not_true_eq_false, not_false_eq_true] | simp only [eq_true hg, decide_true, decide_false, and_true, true_and, and_false, false_and, not_true_eq_false, not_false_eq_true] | simp only [hg, decide_true, decide_false, and_true, true_and, and_false, false_and, not_true_eq_false, not_false_eq_true]) | (with_reducible first | refine And.intro rfl (And.intro rfl rfl) | refine thenQ_n ?_ | refine thenQ_exit ?_ | refine thenQ_ret ?_ | refine midQ_ret ?_ | refine midQ_exit ?_ | refine blockQ_same ?_ | refine blockQ_ne (by decide) ?_ | refine blockQ_ret ?_ | refine blockQ_n ?_ | refine AW.exit ?_ | refine AW.block ?_ | refine AW.cond_t rfl ?_ | refine AW.cond_f rfl ?_ | refine AW.cond_dec rfl (fun hc => ?_) (fun hc => ?_)) | (with_reducible refine AW.cond rfl (fun hc => ?_) (fun hc => ?_) <;> try simp only [Bool.not_eq_eq_eq_not, Bool.not_true, Bool.not_false, decide_eq_true_eq, decide_eq_false_iff_not] at hc) | (with_reducible first | refine AW.seq ?_ | refine AW.skip ?_ | refine AW.ret ?_ | refine And.intro ?_ ?_) | (with_reducible intro hg; first | simp only [eq_false hg, decide_true, decide_false, and_true, true_and, and_false, false_and, not_true_eq_false, not_false_eq_true] | simp only [eq_true hg, decide_true, decide_false, and_true, true_and, and_false, false_and, not_true_eq_false, not_false_eq_true]) | (with_reducible refine retQ_drop ?_; simp only [vRes, packRes, vLoad, vPart, lk, cond, Nat.reduceBEq, get_loc, getD_zero, getD_succ, true_and, List.length_cons, List.length_nil, Nat.reduceAdd, Nat.reduceLT, Nat.reduceLeDiff, List.take_succ_cons, List.take_zero, List.drop_succ_cons, List.drop_zero, vvar_106, vzero_106, vknd_106, vsn_106, vvar_109, vzero_109, vknd_109, vsn_109, vvar_112, vzero_112, vknd_112, vsn_112]) )
  all_goals first
    | exact ⟨_, _, FinOk.drop hB (Pl.ids (by (repeat' (first | exact Pl.v _ | exact Pl.junk | exact Pl.rd rfl _ | exact pl_nil | refine pl_cons ?_ ?_ | refine Pl.agg ?_ | refine Pl.tup ?_ | refine Pl.rp ?_ | refine Pl.fn ?_)); (first | done | fail))), rfl, rfl⟩
    | fail
def rep (q : Nat) : List Int := List.replicate q (-1) ++ List.replicate (13 - q) 0
theorem rep_copy : ∀ q : Nat, q < 14 → 1 ≤ q → (rep q).take q ++ ((rep q).take q).take (13 - q) ++ (rep q).drop (q + min (min q 13) (13 - q)) = rep (q + min (min q 13) (13 - q)) := by decide
theorem rep91_ac (H : List ABox) : AC Try.prog 91 [.rd (.int .i64) ([-1]), .v (.int .i64 (13))] H (fun r H' => r = .sl 1 H.length 0 13 ∧ H' = H ++ [.row false (.int .i64) (List.replicate 13 (-1 : Int))]) := by
  have m1 : IntKind.u64.wrap 1 = 1 := by decide
  have m2 : IntKind.u64.wrap 13 = 13 := by decide
  have m3 : IntKind.i64.wrap 13 = 13 := by decide
  refine AC.enter envOk Try.func91 rfl (by decide) Try.ntmps91 Try.results91 (by simp) fun hB => ?_
  repeat' (first | (with_reducible refine AW.dreg (id := 9) envOk mixed [(false, 0, 1), (false, 0, 0), (false, 0, 0), (false, 0, 0), (false, 0, 0), (false, 0, 0), (false, 0, 0), (true, 0, 0), (false, 1, 1), (false, 1, 1)] ?_ ?_ fun K hK => ?_; kernel_rfl; (first | rfl | exact base_len | exact base_len0)) | (with_reducible refine AW.dregion (id := 9) envOk mixed [(false, 0, 1), (false, 0, 0), (false, 0, 0), (false, 0, 0), (false, 0, 0), (false, 0, 0), (false, 0, 0), (true, 0, 0), (false, 1, 1), (false, 1, 1)] ?_ ?_ fun K hK => ?_; kernel_rfl; (first | rfl | exact base_len | exact base_len0)) | (with_reducible refine vcDr_nil ?_) | (with_reducible refine hK' _ _ _ _ _ ?_; clear hK' K') | (with_reducible refine hK _ _ ?_; clear hK K; dsimp only) | (with_reducible first | refine AW.sreg envOk fun K hK => ?_ | refine AW.region envOk fun K hK => ?_) | (with_reducible refine AW.d0reg envOk mixed ?_ ?_ fun K hK => ?_; (first | rfl | exact base_len | exact base_len0); kernel_rfl) | (with_reducible refine AW.d0 envOk mixed ?_ ?_ fun K hK => ?_; (first | rfl | exact base_len | exact base_len0); kernel_rfl) | (with_reducible first | refine vcD_nil ?_ | refine vcL_nil ?_) | (with_reducible (first | refine vcDr_cons fun K' hK' => ?_ | refine vcD_cons fun K' hK' => ?_ | refine vcL_cons fun K' hK' => ?_); simp only [isC, Bool.false_or, Bool.or_true, vAppend, elems, ↓reduceDIte, List.take_length, Nat.le_refl, List.drop_zero, vGuard, undef, Bool.not_eq_eq_eq_not, dstOk, vcOp, vcF, isPure, putS, vcCall, St.ev, St.put, lk, AVal.ofVal, initS, Nat.reduceLT, true_and, and_true, vBin, vPick, vConv, vPart, vLoad, vExt, vLen, vMake, vSlice, bnd, AVal.flat, AVal.cell, cellsOk, setRange, ETy.enc, ETy.dec, ETy.sz, ETy.d, cond, Nat.reduceBEq, Nat.reduceAdd, Int.toNat_natCast, List.length_set, List.length_append, List.length_replicate, List.length_take, Nat.reduceSub, Nat.reduceEqDiff, get_loc, setBox_loc, next_eq, List.length_cons, List.length_nil, List.map_cons, List.map_nil, List.append_nil, List.nil_append, List.cons_append, List.set_cons_zero, List.set_cons_succ, getD_zero, getD_succ, List.getElem?_cons_succ, List.getElem?_cons_zero, List.take_succ_cons, List.take_zero, List.drop_succ_cons, List.all_cons, List.all_nil, Bool.and_true, Bool.true_and, Option.bind_some, Option.map_some, Option.map_none, decide_eq_true_eq, decide_eq_false_iff_not, ne_eq, Bool.not_eq_true, Bool.not_eq_false, Decidable.not_not, not_true_eq_false, not_false_eq_true, forall_const, false_implies, Bool.true_eq_false, Bool.false_eq_true, reduceCtorEq, decide_true, decide_false, Bool.not_true, Bool.not_false, if_true, if_false, Nat.zero_add, Nat.lt_irrefl, Value.oneCell', gt_iff_lt, Nat.reduceLeDiff, Nat.lt_add_one, vvar_3, vzero_3, vknd_3, vsn_3, vvar_4, vzero_4, vknd_4, vsn_4, vifc_20, vsl_76, vkn_76, vvar_76, vzero_76, vvar_106, vzero_106, vknd_106, vsn_106, vCopy, m1, m2, m3, effI, loI, hiI, pendOk, pastOk, OpOK, Nat.not_lt_zero, Nat.le_zero_eq, Nat.add_eq_zero_iff, Nat.one_ne_zero, and_false, Nat.zero_le, true_implies]; try simp (disch := omega) only [wrap64]) | (with_reducible refine hK' _ ?_; clear hK' K') | (with_reducible refine hK _ ?_; clear hK K) | ((with_reducible show vCall _ (AVal.fn 93 _) _ _ _); refine vCall_pure (mul93_ac _) ?_) | ((with_reducible show vcC _ 93 _ _ _); refine vcC_pure (mul93_ac _) ?_) | (with_reducible first | refine And.intro (And.intro rfl rfl) ?_ | refine And.intro (by omega) ?_) | (with_reducible refine And.intro (fun hg => ?_) (fun hg => ?_) <;> first | simp only [eq_false hg, decide_true, decide_false, and_true, true_and, and_false, false_and, not_true_eq_false, not_false_eq_true] | simp only [eq_true hg, decide_true, decide_false, and_true, true_and, and_false, false_and, not_true_eq_false, not_false_eq_true] | simp only [hg, decide_true, decide_false, and_true, true_and, and_false, false_and, not_true_eq_false, not_false_eq_true]) | (with_reducible first | refine And.intro rfl (And.intro rfl rfl) | refine thenQ_n ?_ | refine thenQ_exit ?_ | refine thenQ_ret ?_ | refine midQ_ret ?_ | refine midQ_exit ?_ | refine blockQ_same ?_ | refine blockQ_ne (by decide) ?_ | refine blockQ_ret ?_ | refine blockQ_n ?_ | refine AW.exit ?_ | refine AW.block ?_ | refine AW.cond_t rfl ?_ | refine AW.cond_f rfl ?_ | refine AW.cond_dec rfl (fun hc => ?_) (fun hc => ?_)) | (with_reducible refine AW.cond rfl (fun hc => ?_) (fun hc => ?_) <;> try simp only [Bool.not_eq_eq_eq_not, Bool.not_true, Bool.not_false, decide_eq_true_eq, decide_eq_false_iff_not] at hc) | (with_reducible first | refine AW.seq ?_ | refine AW.skip ?_ | refine AW.ret ?_ | refine And.intro ?_ ?_) | (with_reducible intro hg; first | simp only [eq_false hg, decide_true, decide_false, and_true, true_and, and_false, false_and, not_true_eq_false, not_false_eq_true] | simp only [eq_true hg, decide_true, decide_false, and_true, true_and, and_false, false_and, not_true_eq_false, not_false_eq_true]) | (with_reducible refine retQ_drop ?_; simp only [vRes, packRes, vLoad, vPart, lk, cond, Nat.reduceBEq, get_loc, getD_zero, getD_succ, true_and, List.length_cons, List.length_nil, Nat.reduceAdd, Nat.reduceLT, Nat.reduceLeDiff, List.take_succ_cons, List.take_zero, List.drop_succ_cons, List.drop_zero, vvar_3, vzero_3, vknd_3, vsn_3, vvar_4, vzero_4, vknd_4, vsn_4, vifc_20, vsl_76, vkn_76, vvar_76, vzero_76, vvar_106, vzero_106, vknd_106, vsn_106]) )
  all_goals first
    | (exfalso; omega)
    | skip
  refine AW.loop (fun q : Nat => (⟨48, [(7, .sl 1 (H.length + 0) 0 (13)), (8, .v (.int .i64 ((q : Int))))], H, [.row false (.int .i64) (rep q)]⟩ : St)) (fun q => 1 ≤ q ∧ q ≤ 13) (fun q => 13 - q) 1 (by omega) ?_ ?_
  · exact (Weak.slots (by repeat' first | exact trivial | exact ⟨rfl, trivial⟩ | refine ⟨rfl, ?_⟩))
  intro q ⟨hq1, hq2⟩
  have hrl : (rep q).length = 13 := by simp [rep]; omega
  by_cases hqn : q < 13
  · have hrc := rep_copy q (by omega) hq1
    repeat' (first | (with_reducible refine AW.dreg (id := 9) envOk mixed [(false, 0, 1), (false, 0, 0), (false, 0, 0), (false, 0, 0), (false, 0, 0), (false, 0, 0), (false, 0, 0), (true, 0, 0), (false, 1, 1), (false, 1, 1)] ?_ ?_ fun K hK => ?_; kernel_rfl; (first | rfl | exact base_len | exact base_len0)) | (with_reducible refine AW.dregion (id := 9) envOk mixed [(false, 0, 1), (false, 0, 0), (false, 0, 0), (false, 0, 0), (false, 0, 0), (false, 0, 0), (false, 0, 0), (true, 0, 0), (false, 1, 1), (false, 1, 1)] ?_ ?_ fun K hK => ?_; kernel_rfl; (first | rfl | exact base_len | exact base_len0)) | (with_reducible refine vcDr_nil ?_) | (with_reducible refine hK' _ _ _ _ _ ?_; clear hK' K') | (with_reducible refine hK _ _ ?_; clear hK K; dsimp only) | (with_reducible first | refine AW.sreg envOk fun K hK => ?_ | refine AW.region envOk fun K hK => ?_) | (with_reducible refine AW.d0reg envOk mixed ?_ ?_ fun K hK => ?_; (first | rfl | exact base_len | exact base_len0); kernel_rfl) | (with_reducible refine AW.d0 envOk mixed ?_ ?_ fun K hK => ?_; (first | rfl | exact base_len | exact base_len0); kernel_rfl) | (with_reducible first | refine vcD_nil ?_ | refine vcL_nil ?_) | (with_reducible (first | refine vcDr_cons fun K' hK' => ?_ | refine vcD_cons fun K' hK' => ?_ | refine vcL_cons fun K' hK' => ?_); simp only [isC, Bool.false_or, Bool.or_true, vAppend, elems, ↓reduceDIte, List.take_length, Nat.le_refl, List.drop_zero, vGuard, undef, Bool.not_eq_eq_eq_not, dstOk, vcOp, vcF, isPure, putS, vcCall, St.ev, St.put, lk, AVal.ofVal, initS, Nat.reduceLT, true_and, and_true, vBin, vPick, vConv, vPart, vLoad, vExt, vLen, vMake, vSlice, bnd, AVal.flat, AVal.cell, cellsOk, setRange, ETy.enc, ETy.dec, ETy.sz, ETy.d, cond, Nat.reduceBEq, Nat.reduceAdd, Int.toNat_natCast, List.length_set, List.length_append, List.length_replicate, List.length_take, Nat.reduceSub, Nat.reduceEqDiff, get_loc, setBox_loc, next_eq, List.length_cons, List.length_nil, List.map_cons, List.map_nil, List.append_nil, List.nil_append, List.cons_append, List.set_cons_zero, List.set_cons_succ, getD_zero, getD_succ, List.getElem?_cons_succ, List.getElem?_cons_zero, List.take_succ_cons, List.take_zero, List.drop_succ_cons, List.all_cons, List.all_nil, Bool.and_true, Bool.true_and, Option.bind_some, Option.map_some, Option.map_none, decide_eq_true_eq, decide_eq_false_iff_not, ne_eq, Bool.not_eq_true, Bool.not_eq_false, Decidable.not_not, not_true_eq_false, not_false_eq_true, forall_const, false_implies, Bool.true_eq_false, Bool.false_eq_true, reduceCtorEq, decide_true, decide_false, Bool.not_true, Bool.not_false, if_true, if_false, Nat.zero_add, Nat.lt_irrefl, Value.oneCell', gt_iff_lt, Nat.reduceLeDiff, Nat.lt_add_one, vvar_3, vzero_3, vknd_3, vsn_3, vvar_4, vzero_4, vknd_4, vsn_4, vifc_20, vsl_76, vkn_76, vvar_76, vzero_76, vvar_106, vzero_106, vknd_106, vsn_106, vCopy, hrl, Int.toNat_zero, Nat.sub_zero, effI, loI, hiI, pendOk, pastOk, OpOK, Nat.not_lt_zero, Nat.le_zero_eq, Nat.add_eq_zero_iff, Nat.one_ne_zero, and_false, Nat.zero_le, true_implies]; try simp (disch := omega) only [wrap64]) | (with_reducible refine hK' _ ?_; clear hK' K') | (with_reducible refine hK _ ?_; clear hK K) | (with_reducible first | refine And.intro (And.intro rfl rfl) ?_ | refine And.intro (by omega) ?_) | (with_reducible refine And.intro (fun hg => ?_) (fun hg => ?_) <;> first | simp only [eq_false hg, decide_true, decide_false, and_true, true_and, and_false, false_and, not_true_eq_false, not_false_eq_true] | simp only [eq_true hg, decide_true, decide_false, and_true, true_and, and_false, false_and, not_true_eq_false, not_false_eq_true] | simp only [hg, decide_true, decide_false, and_true, true_and, and_false, false_and, not_true_eq_false, not_false_eq_true]) | (with_reducible first | refine And.intro rfl (And.intro rfl rfl) | refine thenQ_n ?_ | refine thenQ_exit ?_ | refine thenQ_ret ?_ | refine midQ_ret ?_ | refine midQ_exit ?_ | refine blockQ_same ?_ | refine blockQ_ne (by decide) ?_ | refine blockQ_ret ?_ | refine blockQ_n ?_ | refine AW.exit ?_ | refine AW.block ?_ | refine AW.cond_t rfl ?_ | refine AW.cond_f rfl ?_ | refine AW.cond_dec rfl (fun hc => ?_) (fun hc => ?_)) | (with_reducible refine AW.cond rfl (fun hc => ?_) (fun hc => ?_) <;> try simp only [Bool.not_eq_eq_eq_not, Bool.not_true, Bool.not_false, decide_eq_true_eq, decide_eq_false_iff_not] at hc) | (with_reducible first | refine AW.seq ?_ | refine AW.skip ?_ | refine AW.ret ?_ | refine And.intro ?_ ?_) | (with_reducible intro hg; first | simp only [eq_false hg, decide_true, decide_false, and_true, true_and, and_false, false_and, not_true_eq_false, not_false_eq_true] | simp only [eq_true hg, decide_true, decide_false, and_true, true_and, and_false, false_and, not_true_eq_false, not_false_eq_true]) | (with_reducible refine retQ_drop ?_; simp only [vRes, packRes, vLoad, vPart, lk, cond, Nat.reduceBEq, get_loc, getD_zero, getD_succ, true_and, List.length_cons, List.length_nil, Nat.reduceAdd, Nat.reduceLT, Nat.reduceLeDiff, List.take_succ_cons, List.take_zero, List.drop_succ_cons, List.drop_zero, vvar_3, vzero_3, vknd_3, vsn_3, vvar_4, vzero_4, vknd_4, vsn_4, vifc_20, vsl_76, vkn_76, vvar_76, vzero_76, vvar_106, vzero_106, vknd_106, vsn_106]) )
    all_goals first
      | (exfalso; omega)
      | omega
      | skip
    refine ⟨q + min (min q 13) (13 - q), by omega, by omega, ?_⟩
    rw [hrc]
    exact (Weak.slots (by repeat' first | exact trivial | exact ⟨rfl, trivial⟩ | refine ⟨rfl, ?_⟩))
  · obtain rfl : q = 13 := by omega
    repeat' (first | (with_reducible refine AW.dreg (id := 9) envOk mixed [(false, 0, 1), (false, 0, 0), (false, 0, 0), (false, 0, 0), (false, 0, 0), (false, 0, 0), (false, 0, 0), (true, 0, 0), (false, 1, 1), (false, 1, 1)] ?_ ?_ fun K hK => ?_; kernel_rfl; (first | rfl | exact base_len | exact base_len0)) | (with_reducible refine AW.dregion (id := 9) envOk mixed [(false, 0, 1), (false, 0, 0), (false, 0, 0), (false, 0, 0), (false, 0, 0), (false, 0, 0), (false, 0, 0), (true, 0, 0), (false, 1, 1), (false, 1, 1)] ?_ ?_ fun K hK => ?_; kernel_rfl; (first | rfl | exact base_len | exact base_len0)) | (with_reducible refine vcDr_nil ?_) | (with_reducible refine hK' _ _ _ _ _ ?_; clear hK' K') | (with_reducible refine hK _ _ ?_; clear hK K; dsimp only) | (with_reducible first | refine AW.sreg envOk fun K hK => ?_ | refine AW.region envOk fun K hK => ?_) | (with_reducible refine AW.d0reg envOk mixed ?_ ?_ fun K hK => ?_; (first | rfl | exact base_len | exact base_len0); kernel_rfl) | (with_reducible refine AW.d0 envOk mixed ?_ ?_ fun K hK => ?_; (first | rfl | exact base_len | exact base_len0); kernel_rfl) | (with_reducible first | refine vcD_nil ?_ | refine vcL_nil ?_) | (with_reducible (first | refine vcDr_cons fun K' hK' => ?_ | refine vcD_cons fun K' hK' => ?_ | refine vcL_cons fun K' hK' => ?_); simp only [isC, Bool.false_or, Bool.or_true, vAppend, elems, ↓reduceDIte, List.take_length, Nat.le_refl, List.drop_zero, vGuard, undef, Bool.not_eq_eq_eq_not, dstOk, vcOp, vcF, isPure, putS, vcCall, St.ev, St.put, lk, AVal.ofVal, initS, Nat.reduceLT, true_and, and_true, vBin, vPick, vConv, vPart, vLoad, vExt, vLen, vMake, vSlice, bnd, AVal.flat, AVal.cell, cellsOk, setRange, ETy.enc, ETy.dec, ETy.sz, ETy.d, cond, Nat.reduceBEq, Nat.reduceAdd, Int.toNat_natCast, List.length_set, List.length_append, List.length_replicate, List.length_take, Nat.reduceSub, Nat.reduceEqDiff, get_loc, setBox_loc, next_eq, List.length_cons, List.length_nil, List.map_cons, List.map_nil, List.append_nil, List.nil_append, List.cons_append, List.set_cons_zero, List.set_cons_succ, getD_zero, getD_succ, List.getElem?_cons_succ, List.getElem?_cons_zero, List.take_succ_cons, List.take_zero, List.drop_succ_cons, List.all_cons, List.all_nil, Bool.and_true, Bool.true_and, Option.bind_some, Option.map_some, Option.map_none, decide_eq_true_eq, decide_eq_false_iff_not, ne_eq, Bool.not_eq_true, Bool.not_eq_false, Decidable.not_not, not_true_eq_false, not_false_eq_true, forall_const, false_implies, Bool.true_eq_false, Bool.false_eq_true, reduceCtorEq, decide_true, decide_false, Bool.not_true, Bool.not_false, if_true, if_false, Nat.zero_add, Nat.lt_irrefl, Value.oneCell', gt_iff_lt, Nat.reduceLeDiff, Nat.lt_add_one, vvar_3, vzero_3, vknd_3, vsn_3, vvar_4, vzero_4, vknd_4, vsn_4, vifc_20, vsl_76, vkn_76, vvar_76, vzero_76, vvar_106, vzero_106, vknd_106, vsn_106, vCopy, hrl, effI, loI, hiI, pendOk, pastOk, OpOK, Nat.not_lt_zero, Nat.le_zero_eq, Nat.add_eq_zero_iff, Nat.one_ne_zero, and_false, Nat.zero_le, true_implies]; try simp (disch := omega) only [wrap64]) | (with_reducible refine hK' _ ?_; clear hK' K') | (with_reducible refine hK _ ?_; clear hK K) | (with_reducible first | refine And.intro (And.intro rfl rfl) ?_ | refine And.intro (by omega) ?_) | (with_reducible refine And.intro (fun hg => ?_) (fun hg => ?_) <;> first | simp only [eq_false hg, decide_true, decide_false, and_true, true_and, and_false, false_and, not_true_eq_false, not_false_eq_true] | simp only [eq_true hg, decide_true, decide_false, and_true, true_and, and_false, false_and, not_true_eq_false, not_false_eq_true] | simp only [hg, decide_true, decide_false, and_true, true_and, and_false, false_and, not_true_eq_false, not_false_eq_true]) | (with_reducible first | refine And.intro rfl (And.intro rfl rfl) | refine thenQ_n ?_ | refine thenQ_exit ?_ | refine thenQ_ret ?_ | refine midQ_ret ?_ | refine midQ_exit ?_ | refine blockQ_same ?_ | refine blockQ_ne (by decide) ?_ | refine blockQ_ret ?_ | refine blockQ_n ?_ | refine AW.exit ?_ | refine AW.block ?_ | refine AW.cond_t rfl ?_ | refine AW.cond_f rfl ?_ | refine AW.cond_dec rfl (fun hc => ?_) (fun hc => ?_)) | (with_reducible refine AW.cond rfl (fun hc => ?_) (fun hc => ?_) <;> try simp only [Bool.not_eq_eq_eq_not, Bool.not_true, Bool.not_false, decide_eq_true_eq, decide_eq_false_iff_not] at hc) | (with_reducible first | refine AW.seq ?_ | refine AW.skip ?_ | refine AW.ret ?_ | refine And.intro ?_ ?_) | (with_reducible intro hg; first | simp only [eq_false hg, decide_true, decide_false, and_true, true_and, and_false, false_and, not_true_eq_false, not_false_eq_true] | simp only [eq_true hg, decide_true, decide_false, and_true, true_and, and_false, false_and, not_true_eq_false, not_false_eq_true]) | (with_reducible refine retQ_drop ?_; simp only [vRes, packRes, vLoad, vPart, lk, cond, Nat.reduceBEq, get_loc, getD_zero, getD_succ, true_and, List.length_cons, List.length_nil, Nat.reduceAdd, Nat.reduceLT, Nat.reduceLeDiff, List.take_succ_cons, List.take_zero, List.drop_succ_cons, List.drop_zero, vvar_3, vzero_3, vknd_3, vsn_3, vvar_4, vzero_4, vknd_4, vsn_4, vifc_20, vsl_76, vkn_76, vvar_76, vzero_76, vvar_106, vzero_106, vknd_106, vsn_106]) )
    all_goals first
      | (exfalso; omega)
      | skip
    exact ⟨_, _, FinOk.keep [0] (L := [.row false (.int .i64) (rep 13)]) hB (by decide) (by (repeat' (first | exact trivial | exact RenB.plRow rfl | exact RenB.dead _ | exact RenB.map _ _ | exact RenB.iter rfl | refine And.intro ?_ ?_ | (refine RenB.plBox ?_; (repeat' (first | exact Pl.v _ | exact Pl.junk | exact Pl.rd rfl _ | exact pl_nil | refine pl_cons ?_ ?_ | refine Pl.agg ?_ | refine Pl.tup ?_ | refine Pl.rp ?_ | refine Pl.fn ?_)); (first | done | fail)) | refine RenB.of ?_ | exact RenV.ptr rfl | exact RenV.sl rfl | exact RenV.mp rfl | exact RenV.it rfl | (refine RenV.pl ?_; (repeat' (first | exact Pl.v _ | exact Pl.junk | exact Pl.rd rfl _ | exact pl_nil | refine pl_cons ?_ ?_ | refine Pl.agg ?_ | refine Pl.tup ?_ | refine Pl.rp ?_ | refine Pl.fn ?_)); (first | done | fail)) | refine RenV.aggL ?_ | refine RenV.fnL ?_ | exact Nat.lt_of_sub_pos (by decide) | (simp; (first | done | fail)))); (first | done | fail)) (RenV.sl (j := 0) rfl), rfl, rfl⟩
theorem idx92_ac (xs : List Int) (x : Int) (hx : xs.length ≤ 1000000000) (H : List ABox) : AC Try.prog 92 [.rd (.int .i64) (xs), .v (.int .i64 (x))] H (fun r H' => r = .v (.int .i64 (idxI xs x)) ∧ H' = H) := by
  refine AC.enter envOk Try.func92 rfl (by decide) Try.ntmps92 Try.results92 (by simp) fun hB => ?_
  repeat' (first | (with_reducible first | refine AW.sreg envOk fun K hK => ?_ | refine AW.region envOk fun K hK => ?_ | refine vcL_nil ?_) | (with_reducible (first | refine vcL_cons fun K' hK' => ?_); simp only [isC, Bool.false_or, Bool.or_true, ↓reduceDIte, List.take_length, Nat.le_refl, List.drop_zero, vGuard, undef, Bool.not_eq_eq_eq_not, dstOk, vcOp, vcF, isPure, putS, vcCall, St.ev, St.put, lk, AVal.ofVal, initS, Nat.reduceLT, true_and, and_true, vBin, vPart, vLoad, vIdxA, vLen, AVal.flat, AVal.cell, cellsOk, setRange, ETy.enc, ETy.dec, ETy.sz, ETy.d, cond, Nat.reduceBEq, Nat.reduceAdd, Int.toNat_natCast, List.length_set, List.length_append, List.length_replicate, List.length_take, Nat.reduceSub, Nat.reduceEqDiff, get_loc, setBox_loc, next_eq, List.length_cons, List.length_nil, List.map_cons, List.map_nil, List.append_nil, List.nil_append, List.cons_append, List.set_cons_zero, List.set_cons_succ, getD_zero, getD_succ, List.getElem?_cons_succ, List.getElem?_cons_zero, List.take_succ_cons, List.take_zero, List.drop_succ_cons, List.all_cons, List.all_nil, Bool.and_true, Bool.true_and, Option.bind_some, Option.map_some, Option.map_none, decide_eq_true_eq, decide_eq_false_iff_not, ne_eq, Bool.not_eq_true, Bool.not_eq_false, Decidable.not_not, not_true_eq_false, not_false_eq_true, forall_const, false_implies, Bool.true_eq_false, Bool.false_eq_true, reduceCtorEq, decide_true, decide_false, Bool.not_true, Bool.not_false, if_true, if_false, Nat.zero_add, Nat.lt_irrefl, Value.oneCell', gt_iff_lt, Nat.reduceLeDiff, Nat.lt_add_one, vvar_3, vzero_3, vknd_3, vsn_3, vvar_4, vzero_4, vknd_4, vsn_4, vsl_76, vkn_76, vvar_76, vzero_76]; try simp (disch := omega) only [wrap64]) | (with_reducible refine hK' _ ?_; clear hK' K') | (with_reducible refine hK _ ?_; clear hK K) | (with_reducible first | refine And.intro (And.intro rfl rfl) ?_ | refine And.intro (by omega) ?_) | (with_reducible refine And.intro (fun hg => ?_) (fun hg => ?_) <;> first | simp only [eq_false hg, decide_true, decide_false, and_true, true_and, and_false, false_and, not_true_eq_false, not_false_eq_true] | simp only [eq_true hg, decide_true, decide_false, and_true, true_and, and_false, false_and, not_true_eq_false, not_false_eq_true] | simp only [hg, decide_true, decide_false, and_true, true_and, and_false, false_and, not_true_eq_false, not_false_eq_true]) | (with_reducible first | refine And.intro rfl (And.intro rfl rfl) | refine thenQ_n ?_ | refine thenQ_exit ?_ | refine thenQ_ret ?_ | refine midQ_ret ?_ | refine midQ_exit ?_ | refine blockQ_same ?_ | refine blockQ_ne (by decide) ?_ | refine blockQ_ret ?_ | refine blockQ_n ?_ | refine AW.exit ?_ | refine AW.block ?_ | refine AW.cond_t rfl ?_ | refine AW.cond_f rfl ?_ | refine AW.cond_dec rfl (fun hc => ?_) (fun hc => ?_)) | (with_reducible refine AW.cond rfl (fun hc => ?_) (fun hc => ?_) <;> try simp only [Bool.not_eq_eq_eq_not, Bool.not_true, Bool.not_false, decide_eq_true_eq, decide_eq_false_iff_not] at hc) | (with_reducible first | refine AW.seq ?_ | refine AW.skip ?_ | refine AW.ret ?_ | refine And.intro ?_ ?_) | (with_reducible intro hg; first | simp only [eq_false hg, decide_true, decide_false, and_true, true_and, and_false, false_and, not_true_eq_false, not_false_eq_true] | simp only [eq_true hg, decide_true, decide_false, and_true, true_and, and_false, false_and, not_true_eq_false, not_false_eq_true]) | (with_reducible refine retQ_drop ?_; simp only [vRes, packRes, vLoad, vPart, lk, cond, Nat.reduceBEq, get_loc, getD_zero, getD_succ, true_and, List.length_cons, List.length_nil, Nat.reduceAdd, Nat.reduceLT, Nat.reduceLeDiff, List.take_succ_cons, List.take_zero, List.drop_succ_cons, List.drop_zero, vvar_3, vzero_3, vknd_3, vsn_3, vvar_4, vzero_4, vknd_4, vsn_4, vsl_76, vkn_76, vvar_76, vzero_76]) )
  refine AW.loop (fun i : Nat => (⟨19, [(0, .rd (.int .i64) (xs)), (1, .v (.int .i64 (x))), (7, .v (.int .i64 ((xs.length : Int)))), (8, .v (.int .i64 ((i : Int))))], H, []⟩ : St)) (fun i => i ≤ xs.length ∧ ∀ j, j < i → ¬ x = xs.getD j 0) (fun i => xs.length - i) 0 ⟨Nat.zero_le _, fun j h => absurd h (by omega)⟩ (Weak.slots (by repeat' first | exact trivial | exact ⟨rfl, trivial⟩ | refine ⟨rfl, ?_⟩)) ?_
  intro i ⟨hi, hI⟩
  repeat' (first | (with_reducible first | refine AW.sreg envOk fun K hK => ?_ | refine AW.region envOk fun K hK => ?_ | refine vcL_nil ?_) | (with_reducible (first | refine vcL_cons fun K' hK' => ?_); simp only [isC, Bool.false_or, Bool.or_true, ↓reduceDIte, List.take_length, Nat.le_refl, List.drop_zero, vGuard, undef, Bool.not_eq_eq_eq_not, dstOk, vcOp, vcF, isPure, putS, vcCall, St.ev, St.put, lk, AVal.ofVal, initS, Nat.reduceLT, true_and, and_true, vBin, vPart, vLoad, vIdxA, vLen, AVal.flat, AVal.cell, cellsOk, setRange, ETy.enc, ETy.dec, ETy.sz, ETy.d, cond, Nat.reduceBEq, Nat.reduceAdd, Int.toNat_natCast, List.length_set, List.length_append, List.length_replicate, List.length_take, Nat.reduceSub, Nat.reduceEqDiff, get_loc, setBox_loc, next_eq, List.length_cons, List.length_nil, List.map_cons, List.map_nil, List.append_nil, List.nil_append, List.cons_append, List.set_cons_zero, List.set_cons_succ, getD_zero, getD_succ, List.getElem?_cons_succ, List.getElem?_cons_zero, List.take_succ_cons, List.take_zero, List.drop_succ_cons, List.all_cons, List.all_nil, Bool.and_true, Bool.true_and, Option.bind_some, Option.map_some, Option.map_none, decide_eq_true_eq, decide_eq_false_iff_not, ne_eq, Bool.not_eq_true, Bool.not_eq_false, Decidable.not_not, not_true_eq_false, not_false_eq_true, forall_const, false_implies, Bool.true_eq_false, Bool.false_eq_true, reduceCtorEq, decide_true, decide_false, Bool.not_true, Bool.not_false, if_true, if_false, Nat.zero_add, Nat.lt_irrefl, Value.oneCell', gt_iff_lt, Nat.reduceLeDiff, Nat.lt_add_one, vvar_3, vzero_3, vknd_3, vsn_3, vvar_4, vzero_4, vknd_4, vsn_4, vsl_76, vkn_76, vvar_76, vzero_76]; try simp (disch := omega) only [wrap64]) | (with_reducible refine hK' _ ?_; clear hK' K') | (with_reducible refine hK _ ?_; clear hK K) | (with_reducible first | refine And.intro (And.intro rfl rfl) ?_ | refine And.intro (by omega) ?_) | (with_reducible refine And.intro (fun hg => ?_) (fun hg => ?_) <;> first | simp only [eq_false hg, decide_true, decide_false, and_true, true_and, and_false, false_and, not_true_eq_false, not_false_eq_true] | simp only [eq_true hg, decide_true, decide_false, and_true, true_and, and_false, false_and, not_true_eq_false, not_false_eq_true] | simp only [hg, decide_true, decide_false, and_true, true_and, and_false, false_and, not_true_eq_false, not_false_eq_true]) | (with_reducible first | refine And.intro rfl (And.intro rfl rfl) | refine thenQ_n ?_ | refine thenQ_exit ?_ | refine thenQ_ret ?_ | refine midQ_ret ?_ | refine midQ_exit ?_ | refine blockQ_same ?_ | refine blockQ_ne (by decide) ?_ | refine blockQ_ret ?_ | refine blockQ_n ?_ | refine AW.exit ?_ | refine AW.block ?_ | refine AW.cond_t rfl ?_ | refine AW.cond_f rfl ?_ | refine AW.cond_dec rfl (fun hc => ?_) (fun hc => ?_)) | (with_reducible refine AW.cond rfl (fun hc => ?_) (fun hc => ?_) <;> try simp only [Bool.not_eq_eq_eq_not, Bool.not_true, Bool.not_false, decide_eq_true_eq, decide_eq_false_iff_not] at hc) | (with_reducible first | refine AW.seq ?_ | refine AW.skip ?_ | refine AW.ret ?_ | refine And.intro ?_ ?_) | (with_reducible intro hg; first | simp only [eq_false hg, decide_true, decide_false, and_true, true_and, and_false, false_and, not_true_eq_false, not_false_eq_true] | simp only [eq_true hg, decide_true, decide_false, and_true, true_and, and_false, false_and, not_true_eq_false, not_false_eq_true]) | (with_reducible refine retQ_drop ?_; simp only [vRes, packRes, vLoad, vPart, lk, cond, Nat.reduceBEq, get_loc, getD_zero, getD_succ, true_and, List.length_cons, List.length_nil, Nat.reduceAdd, Nat.reduceLT, Nat.reduceLeDiff, List.take_succ_cons, List.take_zero, List.drop_succ_cons, List.drop_zero, vvar_3, vzero_3, vknd_3, vsn_3, vvar_4, vzero_4, vknd_4, vsn_4, vsl_76, vkn_76, vvar_76, vzero_76]) )
  · refine ⟨_, _, FinOk.drop hB (Pl.ids (by (repeat' (first | exact Pl.v _ | exact Pl.junk | exact Pl.rd rfl _ | exact pl_nil | refine pl_cons ?_ ?_ | refine Pl.agg ?_ | refine Pl.tup ?_ | refine Pl.rp ?_ | refine Pl.fn ?_)); (first | done | fail))), ?_, rfl⟩
    have hm : x ∈ xs := mem_of_getD (i := i) (by omega) (by omega)
    unfold idxI
    rw [if_pos hm, pos_of (i := i) (by omega) (by omega) hI]
  · refine ⟨i + 1, ⟨by omega, fun j hj => ?_⟩, by omega, (Weak.slots (by repeat' first | exact trivial | exact ⟨rfl, trivial⟩ | refine ⟨rfl, ?_⟩))⟩
    by_cases e : j = i
    · subst e; omega
    · exact hI j (by omega)
  · refine ⟨_, _, FinOk.drop hB (Pl.ids (by (repeat' (first | exact Pl.v _ | exact Pl.junk | exact Pl.rd rfl _ | exact pl_nil | refine pl_cons ?_ ?_ | refine Pl.agg ?_ | refine Pl.tup ?_ | refine Pl.rp ?_ | refine Pl.fn ?_)); (first | done | fail))), ?_, rfl⟩
    unfold idxI
    rw [if_neg (not_mem_of (fun j hj => hI j (by omega)))]
theorem cont86_ac (xs : List Int) (x : Int) (hx : xs.length ≤ 1000000000) (H : List ABox) : AC Try.prog 86 [.rd (.int .i64) (xs), .v (.int .i64 (x))] H (fun r H' => r = .v (.bool (decide (x ∈ xs))) ∧ H' = H) := by
  refine AC.enter envOk Try.func86 rfl (by decide) Try.ntmps86 Try.results86 (by simp) fun hB => ?_
  repeat' (first | (with_reducible first | refine AW.sreg envOk fun K hK => ?_ | refine AW.region envOk fun K hK => ?_ | refine vcL_nil ?_) | (with_reducible (first | refine vcL_cons fun K' hK' => ?_); simp only [isC, Bool.false_or, Bool.or_true, ↓reduceDIte, List.take_length, Nat.le_refl, List.drop_zero, vGuard, undef, Bool.not_eq_eq_eq_not, dstOk, vcOp, vcF, isPure, putS, vcCall, St.ev, St.put, lk, AVal.ofVal, initS, Nat.reduceLT, true_and, and_true, vBin, vPart, vLoad, AVal.flat, AVal.cell, cellsOk, setRange, ETy.enc, ETy.dec, ETy.sz, ETy.d, cond, Nat.reduceBEq, Nat.reduceAdd, Int.toNat_natCast, List.length_set, List.length_append, List.length_replicate, List.length_take, Nat.reduceSub, Nat.reduceEqDiff, get_loc, setBox_loc, next_eq, List.length_cons, List.length_nil, List.map_cons, List.map_nil, List.append_nil, List.nil_append, List.cons_append, List.set_cons_zero, List.set_cons_succ, getD_zero, getD_succ, List.getElem?_cons_succ, List.getElem?_cons_zero, List.take_succ_cons, List.take_zero, List.drop_succ_cons, List.all_cons, List.all_nil, Bool.and_true, Bool.true_and, Option.bind_some, Option.map_some, Option.map_none, decide_eq_true_eq, decide_eq_false_iff_not, ne_eq, Bool.not_eq_true, Bool.not_eq_false, Decidable.not_not, not_true_eq_false, not_false_eq_true, forall_const, false_implies, Bool.true_eq_false, Bool.false_eq_true, reduceCtorEq, decide_true, decide_false, Bool.not_true, Bool.not_false, if_true, if_false, Nat.zero_add, Nat.lt_irrefl, Value.oneCell', gt_iff_lt, Nat.reduceLeDiff, Nat.lt_add_one, vvar_3, vzero_3, vknd_3, vsn_3, vvar_4, vzero_4, vknd_4, vsn_4, vsl_76, vkn_76, vvar_76, vzero_76]; try simp (disch := omega) only [wrap64]) | (with_reducible refine hK' _ ?_; clear hK' K') | (with_reducible refine hK _ ?_; clear hK K) | ((with_reducible show vCall _ (AVal.fn 92 _) _ _ _); refine vCall_pure (idx92_ac xs x hx _) ?_) | (with_reducible first | refine And.intro (And.intro rfl rfl) ?_ | refine And.intro (by omega) ?_) | (with_reducible refine And.intro (fun hg => ?_) (fun hg => ?_) <;> first | simp only [eq_false hg, decide_true, decide_false, and_true, true_and, and_false, false_and, not_true_eq_false, not_false_eq_true] | simp only [eq_true hg, decide_true, decide_false, and_true, true_and, and_false, false_and, not_true_eq_false, not_false_eq_true] | simp only [hg, decide_true, decide_false, and_true, true_and, and_false, false_and, not_true_eq_false, not_false_eq_true]) | (with_reducible first | refine And.intro rfl (And.intro rfl rfl) | refine thenQ_n ?_ | refine thenQ_exit ?_ | refine thenQ_ret ?_ | refine midQ_ret ?_ | refine midQ_exit ?_ | refine blockQ_same ?_ | refine blockQ_ne (by decide) ?_ | refine blockQ_ret ?_ | refine blockQ_n ?_ | refine AW.exit ?_ | refine AW.block ?_ | refine AW.cond_t rfl ?_ | refine AW.cond_f rfl ?_ | refine AW.cond_dec rfl (fun hc => ?_) (fun hc => ?_)) | (with_reducible refine AW.cond rfl (fun hc => ?_) (fun hc => ?_) <;> try simp only [Bool.not_eq_eq_eq_not, Bool.not_true, Bool.not_false, decide_eq_true_eq, decide_eq_false_iff_not] at hc) | (with_reducible first | refine AW.seq ?_ | refine AW.skip ?_ | refine AW.ret ?_ | refine And.intro ?_ ?_) | (with_reducible intro hg; first | simp only [eq_false hg, decide_true, decide_false, and_true, true_and, and_false, false_and, not_true_eq_false, not_false_eq_true] | simp only [eq_true hg, decide_true, decide_false, and_true, true_and, and_false, false_and, not_true_eq_false, not_false_eq_true]) | (with_reducible refine retQ_drop ?_; simp only [vRes, packRes, vLoad, vPart, lk, cond, Nat.reduceBEq, get_loc, getD_zero, getD_succ, true_and, List.length_cons, List.length_nil, Nat.reduceAdd, Nat.reduceLT, Nat.reduceLeDiff, List.take_succ_cons, List.take_zero, List.drop_succ_cons, List.drop_zero, vvar_3, vzero_3, vknd_3, vsn_3, vvar_4, vzero_4, vknd_4, vsn_4, vsl_76, vkn_76, vvar_76, vzero_76]) )
  refine ⟨_, _, FinOk.drop hB (Pl.ids (by (repeat' (first | exact Pl.v _ | exact Pl.junk | exact Pl.rd rfl _ | exact pl_nil | refine pl_cons ?_ ?_ | refine Pl.agg ?_ | refine Pl.tup ?_ | refine Pl.rp ?_ | refine Pl.fn ?_)); (first | done | fail))), ?_, rfl⟩
  refine v_bool ?_
  rw [decide_eq_true_eq]
  unfold idxI
  split
  · exact ⟨fun _ => by assumption, fun _ => by omega⟩
  · exact ⟨fun h => absurd h (by omega), fun h => absurd h (by assumption)⟩
end Go.Proofs.Ytdphlhplcmjepaa
end
section
set_option linter.unusedSimpArgs false
set_option linter.unusedVariables false
set_option maxHeartbeats 4000000
namespace Go.Proofs.Ytdphlhplcmjepaa
open Go.Eng
/-- A graph of the numbers 0 .. 12, in rows. -/
structure GraphOk (E : Int → Int → Prop) (gm : Mz) : Prop where
  len : gm.length = 13
  row : ∀ i : Nat, i < 13 → (gm.getD i []).length ≤ 13
  mem : ∀ i : Nat, i < 13 → ∀ t : Int, t ∈ gm.getD i [] ↔ E (i : Int) t
  rng : ∀ a b, E a b → (0 ≤ a ∧ a ≤ 12) ∧ 0 ≤ b ∧ b ≤ 12
  asc : ∀ i : Nat, i < 13 → (gm.getD i []).Pairwise (· < ·)
noncomputable def bkO (gm : Mz) (H : List ABox) (z : List Int × List Int × Nat × Nat) : St := (⟨58, [(0, .rd (.sli .i64) (gm)), (5, .sl 1 (H.length + 0) 0 (13)), (6, .sl 1 (H.length + 1) z.2.2.1 z.2.2.2)], H, [.row false (.int .i64) (z.1), .row false (.int .i64) (z.2.1)]⟩ : St)
noncomputable def bkI (gm : Mz) (H : List ABox) (z : List Int × List Int × Nat × Nat) (i : Nat) : St := (⟨58, [(0, .rd (.sli .i64) (gm)), (5, .sl 1 (H.length + 0) 0 (13)), (6, .sl 1 (H.length + 1) z.2.2.1 z.2.2.2), (23, .rd (.sli .i64) (gm)), (24, .v (.int .i64 (13))), (25, .v (.int .i64 ((i : Int))))], H, [.row false (.int .i64) (z.1), .row false (.int .i64) (z.2.1)]⟩ : St)
structure BkOk (E : Int → Int → Prop) (to : Int) (z : List Int × List Int × Nat × Nat) : Prop where
  bfs : Bfs E to z.1 (z.2.1.drop z.2.2.1)
  m : z.2.2.1 + z.2.2.2 = z.2.1.length
  lim : 2 * (13 - asg z.1) + z.2.2.2 ≤ 27
  all : z.2.1.length ≤ 100
structure BkIn (E : Int → Int → Prop) (to t : Int) (M : Nat) (z : List Int × List Int × Nat × Nat) (i : Nat) : Prop extends BkOk E to z where
  pos : 0 < z.2.2.2
  hd : z.2.1.getD z.2.2.1 0 = t
  seen : ∀ j : Nat, j < i → E (j : Int) t → 0 ≤ z.1.getD j 0
  mu : 2 * (13 - asg z.1) + z.2.2.2 ≤ M
theorem drop_cons {l : List Int} {k : Nat} (h : k < l.length) : l.drop k = l.getD k 0 :: l.drop (k + 1) := by
  rw [List.drop_eq_getElem_cons h]; simp [List.getD, h]
theorem back83_ac {E : Int → Int → Prop} {gm : Mz} (hg : GraphOk E gm) (to : Nat) (ht : to < 13) (H : List ABox) : AC Try.prog 83 [.rd (.sli .i64) (gm), .v (.int .i64 ((to : Int)))] H
    (fun r H' => ∃ far, FarOk E (to : Int) far ∧ r = .rd (.int .i64) (far) ∧ H' = H) := by
  have hgl := hg.len
  refine AC.enter envOk Try.func83 rfl (by decide) Try.ntmps83 Try.results83 (by simp) fun hB => ?_
  repeat' (first | (with_reducible first | refine AW.sreg envOk fun K hK => ?_ | refine AW.region envOk fun K hK => ?_ | refine vcL_nil ?_) | (with_reducible (first | refine vcL_cons fun K' hK' => ?_); simp only [isC, Bool.false_or, Bool.or_true, vAppend, elems, ↓reduceDIte, List.take_length, Nat.le_refl, List.drop_zero, vGuard, undef, Bool.not_eq_eq_eq_not, dstOk, vcOp, vcF, isPure, putS, vcCall, St.ev, St.put, lk, AVal.ofVal, initS, Nat.reduceLT, true_and, and_true, vBin, vPick, vPart, vLoad, vStore, vIdxA, vLen, vBuildSl, vSlice, bnd, partsA, fillA, decAll, AVal.flat, AVal.cell, cellsOk, setRange, ETy.enc, ETy.dec, ETy.sz, ETy.d, cond, Nat.reduceBEq, Nat.reduceAdd, Int.toNat_natCast, List.length_set, List.length_append, List.length_replicate, List.length_take, Nat.reduceSub, Nat.reduceEqDiff, get_loc, setBox_loc, next_eq, List.length_cons, List.length_nil, List.map_cons, List.map_nil, List.append_nil, List.nil_append, List.cons_append, List.set_cons_zero, List.set_cons_succ, getD_zero, getD_succ, List.getElem?_cons_succ, List.getElem?_cons_zero, List.take_succ_cons, List.take_zero, List.drop_succ_cons, List.all_cons, List.all_nil, Bool.and_true, Bool.true_and, Option.bind_some, Option.map_some, Option.map_none, decide_eq_true_eq, decide_eq_false_iff_not, ne_eq, Bool.not_eq_true, Bool.not_eq_false, Decidable.not_not, not_true_eq_false, not_false_eq_true, forall_const, false_implies, Bool.true_eq_false, Bool.false_eq_true, reduceCtorEq, decide_true, decide_false, Bool.not_true, Bool.not_false, if_true, if_false, Nat.zero_add, Nat.lt_irrefl, Value.oneCell', gt_iff_lt, Nat.reduceLeDiff, Nat.lt_add_one, vSealSl, vvar_1, vzero_1, vvar_3, vzero_3, vknd_3, vsn_3, vvar_4, vzero_4, vknd_4, vsn_4, vsl_76, vkn_76, vvar_76, vzero_76, vsl_78, vkn_78, vvar_78, vzero_78, hgl]; try simp (disch := omega) only [wrap64]) | (with_reducible refine hK' _ ?_; clear hK' K') | (with_reducible refine hK _ ?_; clear hK K) | ((with_reducible show vCall _ (AVal.fn 91 _) _ _ _); refine vCall_newE (AC.lentN (args' := [.rd (.int .i64) ([-1]), .v (.int .i64 (13))]) (by simp only [killAll_length, List.length_append, List.length_cons, List.length_nil, Nat.reduceAdd]; rfl) (by (repeat' (first | exact trivial | exact LentV.rowL rfl rfl rfl | exact LentV.rowL rfl rfl (by assumption) | refine LentV.boxL rfl ?_ | exact LentV.nil _ | exact LentV.same _ | refine LentV.aggL ?_ | refine And.intro ?_ ?_)); (first | done | fail)) (by (repeat' (first | exact NoRd.v _ | exact NoRd.sl | exact NoRd.mp | exact NoRd.tup nord_nil | refine NoRd.tup ?_ | refine NoRd.agg ?_ | exact nord_nil | refine nord_cons ?_ ?_)); (first | done | fail)) (by (repeat' (first | exact nordW_nil | refine nordW_cons ?_ ?_ | exact And.intro rfl rfl | exact trivial)); (first | done | fail)) (rep91_ac _)) rfl ?_) | (with_reducible first | refine And.intro (And.intro rfl rfl) ?_ | refine And.intro (by omega) ?_) | (with_reducible refine And.intro (fun hg => ?_) (fun hg => ?_) <;> first | simp only [eq_false hg, decide_true, decide_false, and_true, true_and, and_false, false_and, not_true_eq_false, not_false_eq_true] | simp only [eq_true hg, decide_true, decide_false, and_true, true_and, and_false, false_and, not_true_eq_false, not_false_eq_true] | simp only [hg, decide_true, decide_false, and_true, true_and, and_false, false_and, not_true_eq_false, not_false_eq_true]) | (with_reducible first | refine And.intro rfl (And.intro rfl rfl) | refine thenQ_n ?_ | refine thenQ_exit ?_ | refine thenQ_ret ?_ | refine midQ_ret ?_ | refine midQ_exit ?_ | refine blockQ_same ?_ | refine blockQ_ne (by decide) ?_ | refine blockQ_ret ?_ | refine blockQ_n ?_ | refine AW.exit ?_ | refine AW.block ?_ | refine AW.cond_t rfl ?_ | refine AW.cond_f rfl ?_ | refine AW.cond_dec rfl (fun hc => ?_) (fun hc => ?_)) | (with_reducible refine AW.cond rfl (fun hc => ?_) (fun hc => ?_) <;> try simp only [Bool.not_eq_eq_eq_not, Bool.not_true, Bool.not_false, decide_eq_true_eq, decide_eq_false_iff_not] at hc) | (with_reducible first | refine AW.seq ?_ | refine AW.skip ?_ | refine AW.ret ?_ | refine And.intro ?_ ?_) | (with_reducible intro hg; first | simp only [eq_false hg, decide_true, decide_false, and_true, true_and, and_false, false_and, not_true_eq_false, not_false_eq_true] | simp only [eq_true hg, decide_true, decide_false, and_true, true_and, and_false, false_and, not_true_eq_false, not_false_eq_true]) | (with_reducible refine retQ_drop ?_; simp only [vRes, packRes, vLoad, vPart, lk, cond, Nat.reduceBEq, get_loc, getD_zero, getD_succ, true_and, List.length_cons, List.length_nil, Nat.reduceAdd, Nat.reduceLT, Nat.reduceLeDiff, List.take_succ_cons, List.take_zero, List.drop_succ_cons, List.drop_zero, vvar_1, vzero_1, vvar_3, vzero_3, vknd_3, vsn_3, vvar_4, vzero_4, vknd_4, vsn_4, vsl_76, vkn_76, vvar_76, vzero_76, vsl_78, vkn_78, vvar_78, vzero_78]) )
  all_goals first
    | (exfalso; omega)
    | skip
  refine AW.loop (fun z : List Int × List Int × Nat × Nat => bkO gm H z) (fun z => BkOk E (to : Int) z) (fun z => 2 * (13 - asg z.1) + z.2.2.2) ((List.replicate 13 (-1 : Int)).set to 0, [(to : Int)], 0, 1) ?_ ?_ ?_
  · have h := Bfs.start (E := E) (to := (to : Int)) (by omega) (by omega)
    rw [Int.toNat_natCast] at h
    refine ⟨h, rfl, ?_, by simp⟩
    show 2 * (13 - asg _) + 1 ≤ 27
    omega
  · unfold bkO
    exact (Weak.sel [1, 2] hB (by decide) (by (repeat' (first | exact trivial | exact RenB.plRow rfl | exact RenB.dead _ | exact RenB.map _ _ | exact RenB.iter rfl | refine And.intro ?_ ?_ | (refine RenB.plBox ?_; (repeat' (first | exact Pl.v _ | exact Pl.junk | exact Pl.rd rfl _ | exact pl_nil | refine pl_cons ?_ ?_ | refine Pl.agg ?_ | refine Pl.tup ?_ | refine Pl.rp ?_ | refine Pl.fn ?_)); (first | done | fail)) | refine RenB.of ?_ | exact RenV.ptr rfl | exact RenV.sl rfl | exact RenV.mp rfl | exact RenV.it rfl | (refine RenV.pl ?_; (repeat' (first | exact Pl.v _ | exact Pl.junk | exact Pl.rd rfl _ | exact pl_nil | refine pl_cons ?_ ?_ | refine Pl.agg ?_ | refine Pl.tup ?_ | refine Pl.rp ?_ | refine Pl.fn ?_)); (first | done | fail)) | refine RenV.aggL ?_ | refine RenV.fnL ?_ | exact Nat.lt_of_sub_pos (by decide) | (simp; (first | done | fail)))); (first | done | fail)) (by (repeat' (first | exact trivial | exact RenV.ptr rfl | exact RenV.sl rfl | exact RenV.mp rfl | exact RenV.it rfl | exact RenV.low (.v _) | exact RenV.low (IdsLt.ptr (by assumption)) | (refine RenV.pl ?_; (repeat' (first | exact Pl.v _ | exact Pl.junk | exact Pl.rd rfl _ | exact pl_nil | refine pl_cons ?_ ?_ | refine Pl.agg ?_ | refine Pl.tup ?_ | refine Pl.rp ?_ | refine Pl.fn ?_)); (first | done | fail)) | refine RenV.fnL ?_ | refine RenV.aggL ?_ | refine And.intro ?_ ?_)); (first | done | fail)))
  intro ⟨out, all, off, m⟩ hz
  have hm := hz.m
  have hlim := hz.lim
  have hall := hz.all
  have hol := hz.bfs.len
  simp only at hm hlim hall hol
  unfold bkO
  by_cases hmn : 0 < m
  · obtain ⟨t, htt⟩ : ∃ t, all.getD off 0 = t := ⟨_, rfl⟩
    have hdr : all.drop off = t :: all.drop (off + 1) := by rw [drop_cons (by omega), htt]
    have hto := hz.bfs.todoOk t (by simp only [hdr]; exact List.mem_cons_self)
    repeat' (first | (with_reducible first | refine AW.sreg envOk fun K hK => ?_ | refine AW.region envOk fun K hK => ?_ | refine vcL_nil ?_) | (with_reducible (first | refine vcL_cons fun K' hK' => ?_); simp only [isC, Bool.false_or, Bool.or_true, vAppend, elems, ↓reduceDIte, List.take_length, Nat.le_refl, List.drop_zero, vGuard, undef, Bool.not_eq_eq_eq_not, dstOk, vcOp, vcF, isPure, putS, vcCall, St.ev, St.put, lk, AVal.ofVal, initS, Nat.reduceLT, true_and, and_true, vBin, vPick, vPart, vLoad, vStore, vIdxA, vLen, vBuildSl, vSlice, bnd, partsA, fillA, decAll, AVal.flat, AVal.cell, cellsOk, setRange, ETy.enc, ETy.dec, ETy.sz, ETy.d, cond, Nat.reduceBEq, Nat.reduceAdd, Int.toNat_natCast, List.length_set, List.length_append, List.length_replicate, List.length_take, Nat.reduceSub, Nat.reduceEqDiff, get_loc, setBox_loc, next_eq, List.length_cons, List.length_nil, List.map_cons, List.map_nil, List.append_nil, List.nil_append, List.cons_append, List.set_cons_zero, List.set_cons_succ, getD_zero, getD_succ, List.getElem?_cons_succ, List.getElem?_cons_zero, List.take_succ_cons, List.take_zero, List.drop_succ_cons, List.all_cons, List.all_nil, Bool.and_true, Bool.true_and, Option.bind_some, Option.map_some, Option.map_none, decide_eq_true_eq, decide_eq_false_iff_not, ne_eq, Bool.not_eq_true, Bool.not_eq_false, Decidable.not_not, not_true_eq_false, not_false_eq_true, forall_const, false_implies, Bool.true_eq_false, Bool.false_eq_true, reduceCtorEq, decide_true, decide_false, Bool.not_true, Bool.not_false, if_true, if_false, Nat.zero_add, Nat.lt_irrefl, Value.oneCell', gt_iff_lt, Nat.reduceLeDiff, Nat.lt_add_one, vSealSl, vvar_1, vzero_1, vvar_3, vzero_3, vknd_3, vsn_3, vvar_4, vzero_4, vknd_4, vsn_4, vsl_76, vkn_76, vvar_76, vzero_76, vsl_78, vkn_78, vvar_78, vzero_78, hgl]; try simp (disch := omega) only [wrap64]) | (with_reducible refine hK' _ ?_; clear hK' K') | (with_reducible refine hK _ ?_; clear hK K) | (with_reducible first | refine And.intro (And.intro rfl rfl) ?_ | refine And.intro (by omega) ?_) | (with_reducible refine And.intro (fun hg => ?_) (fun hg => ?_) <;> first | simp only [eq_false hg, decide_true, decide_false, and_true, true_and, and_false, false_and, not_true_eq_false, not_false_eq_true] | simp only [eq_true hg, decide_true, decide_false, and_true, true_and, and_false, false_and, not_true_eq_false, not_false_eq_true] | simp only [hg, decide_true, decide_false, and_true, true_and, and_false, false_and, not_true_eq_false, not_false_eq_true]) | (with_reducible first | refine And.intro rfl (And.intro rfl rfl) | refine thenQ_n ?_ | refine thenQ_exit ?_ | refine thenQ_ret ?_ | refine midQ_ret ?_ | refine midQ_exit ?_ | refine blockQ_same ?_ | refine blockQ_ne (by decide) ?_ | refine blockQ_ret ?_ | refine blockQ_n ?_ | refine AW.exit ?_ | refine AW.block ?_ | refine AW.cond_t rfl ?_ | refine AW.cond_f rfl ?_ | refine AW.cond_dec rfl (fun hc => ?_) (fun hc => ?_)) | (with_reducible refine AW.cond rfl (fun hc => ?_) (fun hc => ?_) <;> try simp only [Bool.not_eq_eq_eq_not, Bool.not_true, Bool.not_false, decide_eq_true_eq, decide_eq_false_iff_not] at hc) | (with_reducible first | refine AW.seq ?_ | refine AW.skip ?_ | refine AW.ret ?_ | refine And.intro ?_ ?_) | (with_reducible intro hg; first | simp only [eq_false hg, decide_true, decide_false, and_true, true_and, and_false, false_and, not_true_eq_false, not_false_eq_true] | simp only [eq_true hg, decide_true, decide_false, and_true, true_and, and_false, false_and, not_true_eq_false, not_false_eq_true]) | (with_reducible refine retQ_drop ?_; simp only [vRes, packRes, vLoad, vPart, lk, cond, Nat.reduceBEq, get_loc, getD_zero, getD_succ, true_and, List.length_cons, List.length_nil, Nat.reduceAdd, Nat.reduceLT, Nat.reduceLeDiff, List.take_succ_cons, List.take_zero, List.drop_succ_cons, List.drop_zero, vvar_1, vzero_1, vvar_3, vzero_3, vknd_3, vsn_3, vvar_4, vzero_4, vknd_4, vsn_4, vsl_76, vkn_76, vvar_76, vzero_76, vsl_78, vkn_78, vvar_78, vzero_78]) )
    all_goals first
      | (exfalso; omega)
      | skip
    refine AW.loop (fun y : (List Int × List Int × Nat × Nat) × Nat => bkI gm H y.1 y.2) (fun y => y.2 ≤ 13 ∧ BkIn E (to : Int) t (2 * (13 - asg out) + m) y.1 y.2) (fun y => 13 - y.2) ((out, all, off, m), 0) ⟨Nat.zero_le _, hz, hmn, htt, fun j hj => absurd hj (by omega), Nat.le_refl _⟩ ?_ ?_
    · unfold bkI
      exact (Weak.slots (by repeat' first | exact trivial | exact ⟨rfl, trivial⟩ | refine ⟨rfl, ?_⟩))
    clear hdr htt hto hlim hall hol hm hz hmn
    intro ⟨⟨out2, all2, off2, m2⟩, i⟩ ⟨hi, hy⟩
    have hm := hy.m
    have hlim := hy.lim
    have hall := hy.all
    have hol := hy.bfs.len
    have htt := hy.hd
    have hmn := hy.pos
    have htt0 : all2.getD (off2 + 0) 0 = t := hy.hd
    simp only at hi hm hlim hall hol htt hmn
    have hdr : all2.drop off2 = t :: all2.drop (off2 + 1) := by rw [drop_cons (by omega), htt]
    have hto := hy.bfs.todoOk t (by simp only [hdr]; exact List.mem_cons_self)
    obtain ⟨⟨ht0, ht1⟩, hta⟩ := hto
    simp only at hta
    unfold bkI
    by_cases hin : i < 13
    · have hrow := hg.row i hin
      have hmem := hg.mem i hin t
      have hlow := hy.bfs.low i hin
      have hle := hy.bfs.le (v := t.toNat) (by omega)
      simp only at hlow hle
      by_cases h0 : out2.getD i 0 < 0
      · have h0' := eq_true h0
        by_cases hE : t ∈ gm.getD i []
        · have hE' := eq_true hE
          have htk : (all2.drop off2).take m2 = all2.drop off2 := List.take_of_length_le (by simp; omega)
          repeat' (first | (with_reducible first | refine AW.sreg envOk fun K hK => ?_ | refine AW.region envOk fun K hK => ?_ | refine vcL_nil ?_) | (with_reducible (first | refine vcL_cons fun K' hK' => ?_); simp only [isC, Bool.false_or, Bool.or_true, vAppend, elems, ↓reduceDIte, List.take_length, Nat.le_refl, List.drop_zero, vGuard, undef, Bool.not_eq_eq_eq_not, dstOk, vcOp, vcF, isPure, putS, vcCall, St.ev, St.put, lk, AVal.ofVal, initS, Nat.reduceLT, true_and, and_true, vBin, vPick, vPart, vLoad, vStore, vIdxA, vLen, vBuildSl, vSlice, bnd, partsA, fillA, decAll, AVal.flat, AVal.cell, cellsOk, setRange, ETy.enc, ETy.dec, ETy.sz, ETy.d, cond, Nat.reduceBEq, Nat.reduceAdd, Int.toNat_natCast, List.length_set, List.length_append, List.length_replicate, List.length_take, Nat.reduceSub, Nat.reduceEqDiff, get_loc, setBox_loc, next_eq, List.length_cons, List.length_nil, List.map_cons, List.map_nil, List.append_nil, List.nil_append, List.cons_append, List.set_cons_zero, List.set_cons_succ, getD_zero, getD_succ, List.getElem?_cons_succ, List.getElem?_cons_zero, List.take_succ_cons, List.take_zero, List.drop_succ_cons, List.all_cons, List.all_nil, Bool.and_true, Bool.true_and, Option.bind_some, Option.map_some, Option.map_none, decide_eq_true_eq, decide_eq_false_iff_not, ne_eq, Bool.not_eq_true, Bool.not_eq_false, Decidable.not_not, not_true_eq_false, not_false_eq_true, forall_const, false_implies, Bool.true_eq_false, Bool.false_eq_true, reduceCtorEq, decide_true, decide_false, Bool.not_true, Bool.not_false, if_true, if_false, Nat.zero_add, Nat.lt_irrefl, Value.oneCell', gt_iff_lt, Nat.reduceLeDiff, Nat.lt_add_one, vSealSl, vvar_1, vzero_1, vvar_3, vzero_3, vknd_3, vsn_3, vvar_4, vzero_4, vknd_4, vsn_4, vsl_76, vkn_76, vvar_76, vzero_76, vsl_78, vkn_78, vvar_78, vzero_78, hgl, hol, h0', hE', htt0, htk, Int.toNat_zero]; try simp (disch := omega) only [wrap64]) | (with_reducible refine hK' _ ?_; clear hK' K') | (with_reducible refine hK _ ?_; clear hK K) | ((with_reducible show vCall _ (AVal.fn 86 _) _ _ _); refine vCall_pure (cont86_ac _ _ (by omega) _) ?_) | (with_reducible first | refine And.intro (And.intro rfl rfl) ?_ | refine And.intro (by omega) ?_) | (with_reducible refine And.intro (fun hg => ?_) (fun hg => ?_) <;> first | simp only [eq_false hg, decide_true, decide_false, and_true, true_and, and_false, false_and, not_true_eq_false, not_false_eq_true] | simp only [eq_true hg, decide_true, decide_false, and_true, true_and, and_false, false_and, not_true_eq_false, not_false_eq_true] | simp only [hg, decide_true, decide_false, and_true, true_and, and_false, false_and, not_true_eq_false, not_false_eq_true]) | (with_reducible first | refine And.intro rfl (And.intro rfl rfl) | refine thenQ_n ?_ | refine thenQ_exit ?_ | refine thenQ_ret ?_ | refine midQ_ret ?_ | refine midQ_exit ?_ | refine blockQ_same ?_ | refine blockQ_ne (by decide) ?_ | refine blockQ_ret ?_ | refine blockQ_n ?_ | refine AW.exit ?_ | refine AW.block ?_ | refine AW.cond_t rfl ?_ | refine AW.cond_f rfl ?_ | refine AW.cond_dec rfl (fun hc => ?_) (fun hc => ?_)) | (with_reducible refine AW.cond rfl (fun hc => ?_) (fun hc => ?_) <;> try simp only [Bool.not_eq_eq_eq_not, Bool.not_true, Bool.not_false, decide_eq_true_eq, decide_eq_false_iff_not] at hc) | (with_reducible first | refine AW.seq ?_ | refine AW.skip ?_ | refine AW.ret ?_ | refine And.intro ?_ ?_) | (with_reducible intro hg; first | simp only [eq_false hg, decide_true, decide_false, and_true, true_and, and_false, false_and, not_true_eq_false, not_false_eq_true] | simp only [eq_true hg, decide_true, decide_false, and_true, true_and, and_false, false_and, not_true_eq_false, not_false_eq_true]) | (with_reducible refine retQ_drop ?_; simp only [vRes, packRes, vLoad, vPart, lk, cond, Nat.reduceBEq, get_loc, getD_zero, getD_succ, true_and, List.length_cons, List.length_nil, Nat.reduceAdd, Nat.reduceLT, Nat.reduceLeDiff, List.take_succ_cons, List.take_zero, List.drop_succ_cons, List.drop_zero, vvar_1, vzero_1, vvar_3, vzero_3, vknd_3, vsn_3, vvar_4, vzero_4, vknd_4, vsn_4, vsl_76, vkn_76, vvar_76, vzero_76, vsl_78, vkn_78, vvar_78, vzero_78]) )
          all_goals first
            | (exfalso; omega)
            | skip
          have hne : all2.drop off2 ≠ [] := by rw [hdr]; simp
          have hadd := hy.bfs.add (t := t) hne (by simp only [hdr]; rfl) hin (hmem.1 hE) h0
          have hasg := asg_set (d := out2.getD t.toNat 0 + 1) (show i < out2.length by omega) h0 (by omega)
          have hasl := asg_le (out2.set i (out2.getD t.toNat 0 + 1))
          rw [List.length_set, hol] at hasl
          have hmu := hy.mu
          simp only at hadd hmu
          refine ⟨((out2.set i (out2.getD t.toNat 0 + 1), all2.drop off2 ++ [(i : Int)], 0, m2 + 1), i + 1), ⟨by simp only; omega, ⟨⟨hadd, ?_, ?_, ?_⟩, ?_, ?_, fun j hj he => ?_, ?_⟩⟩, by simp only; omega, (Weak.sel [0, 3] hB (by decide) (by (repeat' (first | exact trivial | exact RenB.plRow rfl | exact RenB.dead _ | exact RenB.map _ _ | exact RenB.iter rfl | refine And.intro ?_ ?_ | (refine RenB.plBox ?_; (repeat' (first | exact Pl.v _ | exact Pl.junk | exact Pl.rd rfl _ | exact pl_nil | refine pl_cons ?_ ?_ | refine Pl.agg ?_ | refine Pl.tup ?_ | refine Pl.rp ?_ | refine Pl.fn ?_)); (first | done | fail)) | refine RenB.of ?_ | exact RenV.ptr rfl | exact RenV.sl rfl | exact RenV.mp rfl | exact RenV.it rfl | (refine RenV.pl ?_; (repeat' (first | exact Pl.v _ | exact Pl.junk | exact Pl.rd rfl _ | exact pl_nil | refine pl_cons ?_ ?_ | refine Pl.agg ?_ | refine Pl.tup ?_ | refine Pl.rp ?_ | refine Pl.fn ?_)); (first | done | fail)) | refine RenV.aggL ?_ | refine RenV.fnL ?_ | exact Nat.lt_of_sub_pos (by decide) | (simp; (first | done | fail)))); (first | done | fail)) (by (repeat' (first | exact trivial | exact RenV.ptr rfl | exact RenV.sl rfl | exact RenV.mp rfl | exact RenV.it rfl | exact RenV.low (.v _) | exact RenV.low (IdsLt.ptr (by assumption)) | (refine RenV.pl ?_; (repeat' (first | exact Pl.v _ | exact Pl.junk | exact Pl.rd rfl _ | exact pl_nil | refine pl_cons ?_ ?_ | refine Pl.agg ?_ | refine Pl.tup ?_ | refine Pl.rp ?_ | refine Pl.fn ?_)); (first | done | fail)) | refine RenV.fnL ?_ | refine RenV.aggL ?_ | refine And.intro ?_ ?_)); (first | done | fail)))⟩
          · simp only [List.length_append, List.length_drop, List.length_singleton]; omega
          · simp only; omega
          · simp only [List.length_append, List.length_drop, List.length_singleton]; omega
          · simp only; omega
          · simp only [hdr]; rfl
          · simp only at hj ⊢
            by_cases e : j = i
            · rw [e, getD_set_eq (by omega)]; omega
            · rw [getD_set_ne (fun h => e h.symm)]; exact hy.seen j (by omega) he
          · simp only; omega
        · have hE' := eq_false hE
          repeat' (first | (with_reducible first | refine AW.sreg envOk fun K hK => ?_ | refine AW.region envOk fun K hK => ?_ | refine vcL_nil ?_) | (with_reducible (first | refine vcL_cons fun K' hK' => ?_); simp only [isC, Bool.false_or, Bool.or_true, vAppend, elems, ↓reduceDIte, List.take_length, Nat.le_refl, List.drop_zero, vGuard, undef, Bool.not_eq_eq_eq_not, dstOk, vcOp, vcF, isPure, putS, vcCall, St.ev, St.put, lk, AVal.ofVal, initS, Nat.reduceLT, true_and, and_true, vBin, vPick, vPart, vLoad, vStore, vIdxA, vLen, vBuildSl, vSlice, bnd, partsA, fillA, decAll, AVal.flat, AVal.cell, cellsOk, setRange, ETy.enc, ETy.dec, ETy.sz, ETy.d, cond, Nat.reduceBEq, Nat.reduceAdd, Int.toNat_natCast, List.length_set, List.length_append, List.length_replicate, List.length_take, Nat.reduceSub, Nat.reduceEqDiff, get_loc, setBox_loc, next_eq, List.length_cons, List.length_nil, List.map_cons, List.map_nil, List.append_nil, List.nil_append, List.cons_append, List.set_cons_zero, List.set_cons_succ, getD_zero, getD_succ, List.getElem?_cons_succ, List.getElem?_cons_zero, List.take_succ_cons, List.take_zero, List.drop_succ_cons, List.all_cons, List.all_nil, Bool.and_true, Bool.true_and, Option.bind_some, Option.map_some, Option.map_none, decide_eq_true_eq, decide_eq_false_iff_not, ne_eq, Bool.not_eq_true, Bool.not_eq_false, Decidable.not_not, not_true_eq_false, not_false_eq_true, forall_const, false_implies, Bool.true_eq_false, Bool.false_eq_true, reduceCtorEq, decide_true, decide_false, Bool.not_true, Bool.not_false, if_true, if_false, Nat.zero_add, Nat.lt_irrefl, Value.oneCell', gt_iff_lt, Nat.reduceLeDiff, Nat.lt_add_one, vSealSl, vvar_1, vzero_1, vvar_3, vzero_3, vknd_3, vsn_3, vvar_4, vzero_4, vknd_4, vsn_4, vsl_76, vkn_76, vvar_76, vzero_76, vsl_78, vkn_78, vvar_78, vzero_78, hgl, hol, h0', hE', htt0, Int.toNat_zero]; try simp (disch := omega) only [wrap64]) | (with_reducible refine hK' _ ?_; clear hK' K') | (with_reducible refine hK _ ?_; clear hK K) | ((with_reducible show vCall _ (AVal.fn 86 _) _ _ _); refine vCall_pure (cont86_ac _ _ (by omega) _) ?_) | (with_reducible first | refine And.intro (And.intro rfl rfl) ?_ | refine And.intro (by omega) ?_) | (with_reducible refine And.intro (fun hg => ?_) (fun hg => ?_) <;> first | simp only [eq_false hg, decide_true, decide_false, and_true, true_and, and_false, false_and, not_true_eq_false, not_false_eq_true] | simp only [eq_true hg, decide_true, decide_false, and_true, true_and, and_false, false_and, not_true_eq_false, not_false_eq_true] | simp only [hg, decide_true, decide_false, and_true, true_and, and_false, false_and, not_true_eq_false, not_false_eq_true]) | (with_reducible first | refine And.intro rfl (And.intro rfl rfl) | refine thenQ_n ?_ | refine thenQ_exit ?_ | refine thenQ_ret ?_ | refine midQ_ret ?_ | refine midQ_exit ?_ | refine blockQ_same ?_ | refine blockQ_ne (by decide) ?_ | refine blockQ_ret ?_ | refine blockQ_n ?_ | refine AW.exit ?_ | refine AW.block ?_ | refine AW.cond_t rfl ?_ | refine AW.cond_f rfl ?_ | refine AW.cond_dec rfl (fun hc => ?_) (fun hc => ?_)) | (with_reducible refine AW.cond rfl (fun hc => ?_) (fun hc => ?_) <;> try simp only [Bool.not_eq_eq_eq_not, Bool.not_true, Bool.not_false, decide_eq_true_eq, decide_eq_false_iff_not] at hc) | (with_reducible first | refine AW.seq ?_ | refine AW.skip ?_ | refine AW.ret ?_ | refine And.intro ?_ ?_) | (with_reducible intro hg; first | simp only [eq_false hg, decide_true, decide_false, and_true, true_and, and_false, false_and, not_true_eq_false, not_false_eq_true] | simp only [eq_true hg, decide_true, decide_false, and_true, true_and, and_false, false_and, not_true_eq_false, not_false_eq_true]) | (with_reducible refine retQ_drop ?_; simp only [vRes, packRes, vLoad, vPart, lk, cond, Nat.reduceBEq, get_loc, getD_zero, getD_succ, true_and, List.length_cons, List.length_nil, Nat.reduceAdd, Nat.reduceLT, Nat.reduceLeDiff, List.take_succ_cons, List.take_zero, List.drop_succ_cons, List.drop_zero, vvar_1, vzero_1, vvar_3, vzero_3, vknd_3, vsn_3, vvar_4, vzero_4, vknd_4, vsn_4, vsl_76, vkn_76, vvar_76, vzero_76, vsl_78, vkn_78, vvar_78, vzero_78]) )
          all_goals first
            | (exfalso; omega)
            | skip
          refine ⟨((out2, all2, off2, m2), i + 1), ⟨by simp only; omega, hy.toBkOk, hmn, htt, fun j hj he => ?_, hy.mu⟩, by simp only; omega, (Weak.slots (by repeat' first | exact trivial | exact ⟨rfl, trivial⟩ | refine ⟨rfl, ?_⟩))⟩
          by_cases e : j = i
          · exact absurd (hmem.2 (e ▸ he)) hE
          · exact hy.seen j (by simp only at hj; omega) he
      · have h0' := eq_false h0
        repeat' (first | (with_reducible first | refine AW.sreg envOk fun K hK => ?_ | refine AW.region envOk fun K hK => ?_ | refine vcL_nil ?_) | (with_reducible (first | refine vcL_cons fun K' hK' => ?_); simp only [isC, Bool.false_or, Bool.or_true, vAppend, elems, ↓reduceDIte, List.take_length, Nat.le_refl, List.drop_zero, vGuard, undef, Bool.not_eq_eq_eq_not, dstOk, vcOp, vcF, isPure, putS, vcCall, St.ev, St.put, lk, AVal.ofVal, initS, Nat.reduceLT, true_and, and_true, vBin, vPick, vPart, vLoad, vStore, vIdxA, vLen, vBuildSl, vSlice, bnd, partsA, fillA, decAll, AVal.flat, AVal.cell, cellsOk, setRange, ETy.enc, ETy.dec, ETy.sz, ETy.d, cond, Nat.reduceBEq, Nat.reduceAdd, Int.toNat_natCast, List.length_set, List.length_append, List.length_replicate, List.length_take, Nat.reduceSub, Nat.reduceEqDiff, get_loc, setBox_loc, next_eq, List.length_cons, List.length_nil, List.map_cons, List.map_nil, List.append_nil, List.nil_append, List.cons_append, List.set_cons_zero, List.set_cons_succ, getD_zero, getD_succ, List.getElem?_cons_succ, List.getElem?_cons_zero, List.take_succ_cons, List.take_zero, List.drop_succ_cons, List.all_cons, List.all_nil, Bool.and_true, Bool.true_and, Option.bind_some, Option.map_some, Option.map_none, decide_eq_true_eq, decide_eq_false_iff_not, ne_eq, Bool.not_eq_true, Bool.not_eq_false, Decidable.not_not, not_true_eq_false, not_false_eq_true, forall_const, false_implies, Bool.true_eq_false, Bool.false_eq_true, reduceCtorEq, decide_true, decide_false, Bool.not_true, Bool.not_false, if_true, if_false, Nat.zero_add, Nat.lt_irrefl, Value.oneCell', gt_iff_lt, Nat.reduceLeDiff, Nat.lt_add_one, vSealSl, vvar_1, vzero_1, vvar_3, vzero_3, vknd_3, vsn_3, vvar_4, vzero_4, vknd_4, vsn_4, vsl_76, vkn_76, vvar_76, vzero_76, vsl_78, vkn_78, vvar_78, vzero_78, hgl, hol, h0', htt0, Int.toNat_zero]; try simp (disch := omega) only [wrap64]) | (with_reducible refine hK' _ ?_; clear hK' K') | (with_reducible refine hK _ ?_; clear hK K) | ((with_reducible show vCall _ (AVal.fn 86 _) _ _ _); refine vCall_pure (cont86_ac _ _ (by omega) _) ?_) | (with_reducible first | refine And.intro (And.intro rfl rfl) ?_ | refine And.intro (by omega) ?_) | (with_reducible refine And.intro (fun hg => ?_) (fun hg => ?_) <;> first | simp only [eq_false hg, decide_true, decide_false, and_true, true_and, and_false, false_and, not_true_eq_false, not_false_eq_true] | simp only [eq_true hg, decide_true, decide_false, and_true, true_and, and_false, false_and, not_true_eq_false, not_false_eq_true] | simp only [hg, decide_true, decide_false, and_true, true_and, and_false, false_and, not_true_eq_false, not_false_eq_true]) | (with_reducible first | refine And.intro rfl (And.intro rfl rfl) | refine thenQ_n ?_ | refine thenQ_exit ?_ | refine thenQ_ret ?_ | refine midQ_ret ?_ | refine midQ_exit ?_ | refine blockQ_same ?_ | refine blockQ_ne (by decide) ?_ | refine blockQ_ret ?_ | refine blockQ_n ?_ | refine AW.exit ?_ | refine AW.block ?_ | refine AW.cond_t rfl ?_ | refine AW.cond_f rfl ?_ | refine AW.cond_dec rfl (fun hc => ?_) (fun hc => ?_)) | (with_reducible refine AW.cond rfl (fun hc => ?_) (fun hc => ?_) <;> try simp only [Bool.not_eq_eq_eq_not, Bool.not_true, Bool.not_false, decide_eq_true_eq, decide_eq_false_iff_not] at hc) | (with_reducible first | refine AW.seq ?_ | refine AW.skip ?_ | refine AW.ret ?_ | refine And.intro ?_ ?_) | (with_reducible intro hg; first | simp only [eq_false hg, decide_true, decide_false, and_true, true_and, and_false, false_and, not_true_eq_false, not_false_eq_true] | simp only [eq_true hg, decide_true, decide_false, and_true, true_and, and_false, false_and, not_true_eq_false, not_false_eq_true]) | (with_reducible refine retQ_drop ?_; simp only [vRes, packRes, vLoad, vPart, lk, cond, Nat.reduceBEq, get_loc, getD_zero, getD_succ, true_and, List.length_cons, List.length_nil, Nat.reduceAdd, Nat.reduceLT, Nat.reduceLeDiff, List.take_succ_cons, List.take_zero, List.drop_succ_cons, List.drop_zero, vvar_1, vzero_1, vvar_3, vzero_3, vknd_3, vsn_3, vvar_4, vzero_4, vknd_4, vsn_4, vsl_76, vkn_76, vvar_76, vzero_76, vsl_78, vkn_78, vvar_78, vzero_78]) )
        all_goals first
          | (exfalso; omega)
          | skip
        refine ⟨((out2, all2, off2, m2), i + 1), ⟨by simp only; omega, hy.toBkOk, hmn, htt, fun j hj he => ?_, hy.mu⟩, by simp only; omega, (Weak.slots (by repeat' first | exact trivial | exact ⟨rfl, trivial⟩ | refine ⟨rfl, ?_⟩))⟩
        by_cases e : j = i
        · subst e; simp only; omega
        · exact hy.seen j (by simp only at hj; omega) he
    · obtain rfl : i = 13 := by omega
      repeat' (first | (with_reducible first | refine AW.sreg envOk fun K hK => ?_ | refine AW.region envOk fun K hK => ?_ | refine vcL_nil ?_) | (with_reducible (first | refine vcL_cons fun K' hK' => ?_); simp only [isC, Bool.false_or, Bool.or_true, vAppend, elems, ↓reduceDIte, List.take_length, Nat.le_refl, List.drop_zero, vGuard, undef, Bool.not_eq_eq_eq_not, dstOk, vcOp, vcF, isPure, putS, vcCall, St.ev, St.put, lk, AVal.ofVal, initS, Nat.reduceLT, true_and, and_true, vBin, vPick, vPart, vLoad, vStore, vIdxA, vLen, vBuildSl, vSlice, bnd, partsA, fillA, decAll, AVal.flat, AVal.cell, cellsOk, setRange, ETy.enc, ETy.dec, ETy.sz, ETy.d, cond, Nat.reduceBEq, Nat.reduceAdd, Int.toNat_natCast, List.length_set, List.length_append, List.length_replicate, List.length_take, Nat.reduceSub, Nat.reduceEqDiff, get_loc, setBox_loc, next_eq, List.length_cons, List.length_nil, List.map_cons, List.map_nil, List.append_nil, List.nil_append, List.cons_append, List.set_cons_zero, List.set_cons_succ, getD_zero, getD_succ, List.getElem?_cons_succ, List.getElem?_cons_zero, List.take_succ_cons, List.take_zero, List.drop_succ_cons, List.all_cons, List.all_nil, Bool.and_true, Bool.true_and, Option.bind_some, Option.map_some, Option.map_none, decide_eq_true_eq, decide_eq_false_iff_not, ne_eq, Bool.not_eq_true, Bool.not_eq_false, Decidable.not_not, not_true_eq_false, not_false_eq_true, forall_const, false_implies, Bool.true_eq_false, Bool.false_eq_true, reduceCtorEq, decide_true, decide_false, Bool.not_true, Bool.not_false, if_true, if_false, Nat.zero_add, Nat.lt_irrefl, Value.oneCell', gt_iff_lt, Nat.reduceLeDiff, Nat.lt_add_one, vSealSl, vvar_1, vzero_1, vvar_3, vzero_3, vknd_3, vsn_3, vvar_4, vzero_4, vknd_4, vsn_4, vsl_76, vkn_76, vvar_76, vzero_76, vsl_78, vkn_78, vvar_78, vzero_78, hgl, Int.reduceToNat]; try simp (disch := omega) only [wrap64]) | (with_reducible refine hK' _ ?_; clear hK' K') | (with_reducible refine hK _ ?_; clear hK K) | (with_reducible first | refine And.intro (And.intro rfl rfl) ?_ | refine And.intro (by omega) ?_) | (with_reducible refine And.intro (fun hg => ?_) (fun hg => ?_) <;> first | simp only [eq_false hg, decide_true, decide_false, and_true, true_and, and_false, false_and, not_true_eq_false, not_false_eq_true] | simp only [eq_true hg, decide_true, decide_false, and_true, true_and, and_false, false_and, not_true_eq_false, not_false_eq_true] | simp only [hg, decide_true, decide_false, and_true, true_and, and_false, false_and, not_true_eq_false, not_false_eq_true]) | (with_reducible first | refine And.intro rfl (And.intro rfl rfl) | refine thenQ_n ?_ | refine thenQ_exit ?_ | refine thenQ_ret ?_ | refine midQ_ret ?_ | refine midQ_exit ?_ | refine blockQ_same ?_ | refine blockQ_ne (by decide) ?_ | refine blockQ_ret ?_ | refine blockQ_n ?_ | refine AW.exit ?_ | refine AW.block ?_ | refine AW.cond_t rfl ?_ | refine AW.cond_f rfl ?_ | refine AW.cond_dec rfl (fun hc => ?_) (fun hc => ?_)) | (with_reducible refine AW.cond rfl (fun hc => ?_) (fun hc => ?_) <;> try simp only [Bool.not_eq_eq_eq_not, Bool.not_true, Bool.not_false, decide_eq_true_eq, decide_eq_false_iff_not] at hc) | (with_reducible first | refine AW.seq ?_ | refine AW.skip ?_ | refine AW.ret ?_ | refine And.intro ?_ ?_) | (with_reducible intro hg; first | simp only [eq_false hg, decide_true, decide_false, and_true, true_and, and_false, false_and, not_true_eq_false, not_false_eq_true] | simp only [eq_true hg, decide_true, decide_false, and_true, true_and, and_false, false_and, not_true_eq_false, not_false_eq_true]) | (with_reducible refine retQ_drop ?_; simp only [vRes, packRes, vLoad, vPart, lk, cond, Nat.reduceBEq, get_loc, getD_zero, getD_succ, true_and, List.length_cons, List.length_nil, Nat.reduceAdd, Nat.reduceLT, Nat.reduceLeDiff, List.take_succ_cons, List.take_zero, List.drop_succ_cons, List.drop_zero, vvar_1, vzero_1, vvar_3, vzero_3, vknd_3, vsn_3, vvar_4, vzero_4, vknd_4, vsn_4, vsl_76, vkn_76, vvar_76, vzero_76, vsl_78, vkn_78, vvar_78, vzero_78]) )
      all_goals first
        | (exfalso; omega)
        | skip
      have hb := hy.bfs
      have hmu := hy.mu
      simp only [hdr] at hb hmu
      have hp := hb.pop (fun j hj he => hy.seen j (by omega) he)
      refine ⟨(out2, all2, off2 + 1, m2 - 1), ⟨hp, ?_, ?_, hall⟩, ?_, (Weak.slots (by repeat' first | exact trivial | exact ⟨rfl, trivial⟩ | refine ⟨rfl, ?_⟩))⟩
      · simp only; omega
      · simp only; omega
      · simp only; omega
  · obtain rfl : m = 0 := by omega
    repeat' (first | (with_reducible first | refine AW.sreg envOk fun K hK => ?_ | refine AW.region envOk fun K hK => ?_ | refine vcL_nil ?_) | (with_reducible (first | refine vcL_cons fun K' hK' => ?_); simp only [isC, Bool.false_or, Bool.or_true, vAppend, elems, ↓reduceDIte, List.take_length, Nat.le_refl, List.drop_zero, vGuard, undef, Bool.not_eq_eq_eq_not, dstOk, vcOp, vcF, isPure, putS, vcCall, St.ev, St.put, lk, AVal.ofVal, initS, Nat.reduceLT, true_and, and_true, vBin, vPick, vPart, vLoad, vStore, vIdxA, vLen, vBuildSl, vSlice, bnd, partsA, fillA, decAll, AVal.flat, AVal.cell, cellsOk, setRange, ETy.enc, ETy.dec, ETy.sz, ETy.d, cond, Nat.reduceBEq, Nat.reduceAdd, Int.toNat_natCast, List.length_set, List.length_append, List.length_replicate, List.length_take, Nat.reduceSub, Nat.reduceEqDiff, get_loc, setBox_loc, next_eq, List.length_cons, List.length_nil, List.map_cons, List.map_nil, List.append_nil, List.nil_append, List.cons_append, List.set_cons_zero, List.set_cons_succ, getD_zero, getD_succ, List.getElem?_cons_succ, List.getElem?_cons_zero, List.take_succ_cons, List.take_zero, List.drop_succ_cons, List.all_cons, List.all_nil, Bool.and_true, Bool.true_and, Option.bind_some, Option.map_some, Option.map_none, decide_eq_true_eq, decide_eq_false_iff_not, ne_eq, Bool.not_eq_true, Bool.not_eq_false, Decidable.not_not, not_true_eq_false, not_false_eq_true, forall_const, false_implies, Bool.true_eq_false, Bool.false_eq_true, reduceCtorEq, decide_true, decide_false, Bool.not_true, Bool.not_false, if_true, if_false, Nat.zero_add, Nat.lt_irrefl, Value.oneCell', gt_iff_lt, Nat.reduceLeDiff, Nat.lt_add_one, vSealSl, vvar_1, vzero_1, vvar_3, vzero_3, vknd_3, vsn_3, vvar_4, vzero_4, vknd_4, vsn_4, vsl_76, vkn_76, vvar_76, vzero_76, vsl_78, vkn_78, vvar_78, vzero_78]; try simp (disch := omega) only [wrap64]) | (with_reducible refine hK' _ ?_; clear hK' K') | (with_reducible refine hK _ ?_; clear hK K) | (with_reducible first | refine And.intro (And.intro rfl rfl) ?_ | refine And.intro (by omega) ?_) | (with_reducible refine And.intro (fun hg => ?_) (fun hg => ?_) <;> first | simp only [eq_false hg, decide_true, decide_false, and_true, true_and, and_false, false_and, not_true_eq_false, not_false_eq_true] | simp only [eq_true hg, decide_true, decide_false, and_true, true_and, and_false, false_and, not_true_eq_false, not_false_eq_true] | simp only [hg, decide_true, decide_false, and_true, true_and, and_false, false_and, not_true_eq_false, not_false_eq_true]) | (with_reducible first | refine And.intro rfl (And.intro rfl rfl) | refine thenQ_n ?_ | refine thenQ_exit ?_ | refine thenQ_ret ?_ | refine midQ_ret ?_ | refine midQ_exit ?_ | refine blockQ_same ?_ | refine blockQ_ne (by decide) ?_ | refine blockQ_ret ?_ | refine blockQ_n ?_ | refine AW.exit ?_ | refine AW.block ?_ | refine AW.cond_t rfl ?_ | refine AW.cond_f rfl ?_ | refine AW.cond_dec rfl (fun hc => ?_) (fun hc => ?_)) | (with_reducible refine AW.cond rfl (fun hc => ?_) (fun hc => ?_) <;> try simp only [Bool.not_eq_eq_eq_not, Bool.not_true, Bool.not_false, decide_eq_true_eq, decide_eq_false_iff_not] at hc) | (with_reducible first | refine AW.seq ?_ | refine AW.skip ?_ | refine AW.ret ?_ | refine And.intro ?_ ?_) | (with_reducible intro hg; first | simp only [eq_false hg, decide_true, decide_false, and_true, true_and, and_false, false_and, not_true_eq_false, not_false_eq_true] | simp only [eq_true hg, decide_true, decide_false, and_true, true_and, and_false, false_and, not_true_eq_false, not_false_eq_true]) | (with_reducible refine retQ_drop ?_; simp only [vRes, packRes, vLoad, vPart, lk, cond, Nat.reduceBEq, get_loc, getD_zero, getD_succ, true_and, List.length_cons, List.length_nil, Nat.reduceAdd, Nat.reduceLT, Nat.reduceLeDiff, List.take_succ_cons, List.take_zero, List.drop_succ_cons, List.drop_zero, vvar_1, vzero_1, vvar_3, vzero_3, vknd_3, vsn_3, vvar_4, vzero_4, vknd_4, vsn_4, vsl_76, vkn_76, vvar_76, vzero_76, vsl_78, vkn_78, vvar_78, vzero_78]) )
    all_goals first
      | (exfalso; omega)
      | skip
    refine ⟨_, _, FinOk.seal 0 (.int .i64) out hB (by simp) rfl (SealV.whole rfl hol.symm) (Pl.rd rfl _).ids, out, ?_, rfl, rfl⟩
    have hb := hz.bfs
    simp only at hb
    rw [List.drop_of_length_le (by omega)] at hb
    exact hb.far hg.rng (by omega) (by omega)
end Go.Proofs.Ytdphlhplcmjepaa
end

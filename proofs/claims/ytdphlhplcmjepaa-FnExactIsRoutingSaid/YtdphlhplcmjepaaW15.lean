/- Walks: are tracks right, by bits. -/
import Derived.Test.YtdphlhplcmjepaaW14
set_option linter.unusedSimpArgs false
set_option linter.unusedVariables false
set_option maxHeartbeats 1000000
namespace Go.Proofs.Ytdphlhplcmjepaa
open Go.Eng

/-- What is known of the first t tracks. -/
structure PreS (ns : List Int) (AP AB : Int → Int → Prop) (tr : Mz) (t : Nat) : Prop where
  rows : ∀ s, s < t → tr.getD s [] ≠ [] ∧ (tr.getD s []).Pairwise (· < ·) ∧ (∀ x ∈ tr.getD s [], ∀ y ∈ tr.getD s [], ¬ AP x y) ∧ ∀ y ∈ tr.getD s [], ∀ x ∈ ns, AB x y → x ∈ (tr.take s).flatten
  once : (tr.take t).flatten.Nodup
structure PreU (ns : List Int) (AP : Int → Int → Prop) (tr : Mz) (t i : Nat) : Prop where
  le : i ≤ (tr.getD t []).length
  asc : ((tr.getD t []).take i).Pairwise (· < ·)
  once : ((tr.take t).flatten ++ (tr.getD t []).take i).Nodup
  apart : ∀ x ∈ (tr.getD t []).take i, ∀ y ∈ (tr.getD t []).take i, ¬ AP x y
theorem PreS.start (ns : List Int) (AP AB : Int → Int → Prop) (tr : Mz) : PreS ns AP AB tr 0 := ⟨fun s hs => absurd hs (by omega), by simp⟩
theorem PreS.inner {ns : List Int} {AP AB : Int → Int → Prop} {tr : Mz} {t : Nat} (h : PreS ns AP AB tr t) : PreU ns AP tr t 0 := ⟨Nat.zero_le _, by simp, by simpa using h.once, fun x hx => by simp at hx⟩
theorem PreU.step {ns : List Int} {AP : Int → Int → Prop} (hirr : ∀ x, ¬ AP x x) (hsym : ∀ x y, AP x y → AP y x) {tr : Mz} {t i : Nat} (h : PreU ns AP tr t i) (hi : i < (tr.getD t []).length) (ha : 0 < i → (tr.getD t []).getD (i - 1) 0 < (tr.getD t []).getD i 0)
    (hne : ¬ (tr.getD t []).getD i 0 ∈ (tr.take t).flatten) (hap : ∀ y ∈ (tr.getD t []).take i, ¬ AP ((tr.getD t []).getD i 0) y) : PreU ns AP tr t (i + 1) := by
  have hasc := pw_step hi h.asc ha
  have hne2 : ¬ (tr.getD t []).getD i 0 ∈ (tr.getD t []).take i := fun hm => by
    have h1 := sorted_nodup hasc
    rw [take_snoc hi, List.nodup_append] at h1
    exact h1.2.2 _ hm _ (List.mem_singleton.2 rfl) rfl
  refine ⟨hi, hasc, ?_, fun x hx y hy => ?_⟩
  · rw [take_snoc hi, ← List.append_assoc, List.nodup_append]
    refine ⟨h.once, by simp, fun a h1 b h2 e => ?_⟩
    rw [List.mem_singleton.1 h2] at e
    rw [e] at h1
    rcases List.mem_append.1 h1 with h1 | h1
    · exact hne h1
    · exact hne2 h1
  · rw [take_snoc hi] at hx hy
    rcases List.mem_append.1 hx with hx | hx <;> rcases List.mem_append.1 hy with hy | hy
    · exact h.apart x hx y hy
    · rw [List.mem_singleton.1 hy]; exact fun h' => hap x hx (hsym _ _ h')
    · rw [List.mem_singleton.1 hx]; exact hap y hy
    · rw [List.mem_singleton.1 hx, List.mem_singleton.1 hy]; exact hirr _
theorem PreS.next {ns : List Int} {AP AB : Int → Int → Prop} {tr : Mz} {t : Nat} (h : PreS ns AP AB tr t) (ht : t < tr.length) (hne : tr.getD t [] ≠ []) (k : PreU ns AP tr t (tr.getD t []).length)
    (hab : ∀ y ∈ tr.getD t [], ∀ x ∈ ns, AB x y → x ∈ (tr.take t).flatten) : PreS ns AP AB tr (t + 1) := by
  have h1 := k.asc
  have h3 := k.once
  have h4 := k.apart
  rw [List.take_length] at h1 h3 h4
  refine ⟨fun s hs => ?_, by rw [flat_snoc ht]; exact h3⟩
  by_cases e : s = t
  · rw [e]; exact ⟨hne, h1, h4, hab⟩
  · exact h.rows s (by omega)
theorem PreS.good {ns : List Int} {AP AB : Int → Int → Prop} {tr : Mz} (hall : AllIn ns tr) (h : PreS ns AP AB tr tr.length) : (∀ x ∈ ns, x ∈ tr.flatten) ↔ Good ns AP AB tr := by
  have hr : ∀ l ∈ tr, ∃ s, s < tr.length ∧ l = tr.getD s [] := fun l hl => by
    obtain ⟨s, hs, rfl⟩ := List.mem_iff_getElem.1 hl
    exact ⟨s, hs, by simp [List.getD, hs]⟩
  have ho := h.once
  rw [List.take_length] at ho
  constructor
  · intro ha
    refine ⟨fun l hl => ?_, ho, ha, fun l hl x hx y hy => ?_, fun t ht y hy x hx hab => (h.rows t ht).2.2.2 y hy x hx hab⟩
    · obtain ⟨s, hs, e⟩ := hr l hl
      have := h.rows s hs
      rw [← e] at this
      exact ⟨this.1, this.2.1, hall l hl⟩
    · obtain ⟨s, hs, e⟩ := hr l hl
      have := (h.rows s hs).2.2.1
      rw [← e] at this
      exact this x hx y hy
  · exact fun g => g.all
theorem sub_flat {ns : List Int} {tr : Mz} (hall : AllIn ns tr) (t : Nat) : ∀ x ∈ (tr.take t).flatten, x ∈ ns := fun x hx => by
  obtain ⟨s, h1, h2, h3⟩ := of_take_flat hx
  exact hall _ (getL_mem h2) x h3
theorem msk63 {ns l : List Int} (hn : ns.length ≤ 60) (h : ∀ x ∈ l, x ∈ ns) : msk ns l < 2 ^ 63 := Nat.lt_of_lt_of_le (msk_lt h) (Nat.pow_le_pow_right (by decide) (by omega))
theorem bit_k {a k : Nat} (ha : a < 2 ^ 63) (hk : k < 63) : bitAnd .i64 ((a : Int).fdiv (2 ^ (min k IntKind.i64.bits))) 1 = if a.testBit k then 1 else 0 := by
  have := bit_at ha hk
  rwa [Int.toNat_natCast] at this
theorem pos_bit {ns l : List Int} (hs : ns.Nodup) (h : ∀ x ∈ l, x ∈ ns) {x : Int} (hx : x ∈ ns) : (msk ns l).testBit (pos ns x) = true ↔ x ∈ l := by
  rw [msk_bit hs h, pos_get hx]
  exact ⟨fun h => h.2, fun h => ⟨pos_lt hx, h⟩⟩
theorem sets76_ac (ns : List Int) (hs : ns.Pairwise (· < ·)) (AP AB : Int → Int → Prop) (hirr : ∀ x, ¬ AP x x) (hsym : ∀ x y, AP x y → AP y x) (mp ma : List Int) (hP : Rel ns AP mp) (hA : Rel ns (fun k i => AB i k) ma) (hlen : ns.length ≤ 60)
    (tr : Mz) (hf : Fits 1048576 tr) (hall : AllIn ns tr) (H : List ABox) : AC Try.prog 76 [.agg [.rd (.int .i64) mp, .rd (.int .i64) ma], .rd (.sli .i64) (psM ns tr)] H (fun r H' => r = .v (.bool (decide (Good ns AP AB tr))) ∧ H' = H) := by
  obtain ⟨hf1, hf2⟩ := hf
  obtain ⟨hP1, hP2⟩ := hP
  obtain ⟨hA1, hA2⟩ := hA
  have hn := sorted_nodup hs
  have hpl := psM_len ns tr
  have h63 : (2 : Nat) ^ ns.length ≤ 2 ^ 60 := Nat.pow_le_pow_right (by decide) hlen
  have hsn := shl_k (k := ns.length) (by omega)
  refine AC.enter envOk Try.func76 rfl (by decide) Try.ntmps76 Try.results76 (by simp) fun hB => ?_
  repeat' (first
    | (with_reducible refine AW.sreg envOk fun K hK => ?_)
    | (with_reducible refine AW.region envOk fun K hK => ?_)
    | (with_reducible refine vcL_nil ?_)
    | (with_reducible refine vcL_cons fun K' hK' => ?_; simp only [vAppend, elems, ↓reduceDIte, List.take_length, Nat.le_refl, List.drop_zero, vGuard, undef, Bool.not_eq_eq_eq_not, dstOk, vcOp, vcF, isPure, putS, vcCall, St.ev, St.put, lk, AVal.ofVal, initS, Nat.reduceLT, true_and, and_true, vBin, vUn, vPick, vConv, vPart, vLoad, vStore, vIdxA, vIdx, vFldA, vExt, vLen, vMin, vNil, vAlloc, vBox, vBuild, vBuildSl, vMake, vSlice, bnd, partsA, fillA, decAll, AVal.flat, AVal.cell, cellsOk, setRange, ETy.enc, ETy.dec, ETy.sz, ETy.d, cond, Nat.reduceBEq, Nat.reduceAdd, Int.toNat_natCast, List.length_set, List.length_append, List.length_replicate, List.length_take, Nat.reduceSub, Nat.reduceEqDiff, get_loc, setBox_loc, next_eq, List.length_cons, List.length_nil, List.map_cons, List.map_nil, List.append_nil, List.nil_append, List.cons_append, List.set_cons_zero, List.set_cons_succ, getD_zero, getD_succ, List.getElem?_cons_succ, List.getElem?_cons_zero, List.take_succ_cons, List.take_zero, List.drop_succ_cons, List.drop_zero, List.all_cons, List.all_nil, Bool.and_true, Bool.true_and, Option.bind_some, Option.map_some, Option.map_none, decide_eq_true_eq, decide_eq_false_iff_not, ne_eq, Bool.not_eq_true, Bool.not_eq_false, Decidable.not_not, not_true_eq_false, not_false_eq_true, forall_const, false_implies, Bool.true_eq_false, Bool.false_eq_true, reduceCtorEq, decide_true, decide_false, Bool.not_true, Bool.not_false, if_true, if_false, Nat.zero_add, Nat.lt_irrefl, Value.oneCell', gt_iff_lt, Nat.reduceLeDiff, Nat.lt_add_one, List.length_append, vMakeMap, vLookup, vMapUpd, vMapEnt, vEntSt, vRange, vEntry, KK.of, KK.av, lkRes, entry_last, vvar_3, vzero_3, vknd_3, vsn_3, vvar_4, vzero_4, vknd_4, vsn_4, vsl_76, vkn_76, vvar_76, vzero_76, vsl_77, vkn_77, vvar_77, vzero_77, vvar_92, vzero_92, vbld_92, vfld_92_0, vfld_92_1, hpl]; try simp (disch := omega) only [wrap64])
    | (with_reducible refine hK' _ ?_; clear hK' K')
    | (with_reducible refine hK _ ?_; clear hK K)
    | (with_reducible refine And.intro (And.intro rfl rfl) ?_)
    | (with_reducible refine And.intro (by omega) ?_)
    | (with_reducible refine And.intro (fun hg => ?_) (fun hg => ?_) <;> first | simp only [eq_false hg, decide_true, decide_false, and_true, true_and, and_false, false_and, not_true_eq_false, not_false_eq_true] | simp only [eq_true hg, decide_true, decide_false, and_true, true_and, and_false, false_and, not_true_eq_false, not_false_eq_true] | simp only [hg, decide_true, decide_false, and_true, true_and, and_false, false_and, not_true_eq_false, not_false_eq_true])
    | (with_reducible refine And.intro rfl (And.intro rfl rfl))
    | (with_reducible refine thenQ_n ?_)
    | (with_reducible refine thenQ_exit ?_)
    | (with_reducible refine thenQ_ret ?_)
    | (with_reducible refine midQ_ret ?_)
    | (with_reducible refine midQ_exit ?_)
    | (with_reducible refine blockQ_same ?_)
    | (with_reducible refine blockQ_ret ?_)
    | (with_reducible refine blockQ_n ?_)
    | (with_reducible refine AW.exit ?_)
    | (with_reducible refine AW.block ?_)
    | (with_reducible refine AW.cond_t rfl ?_)
    | (with_reducible refine AW.cond_f rfl ?_)
    | (with_reducible refine AW.cond_dec rfl (fun hc => ?_) (fun hc => ?_))
    | (with_reducible refine AW.cond rfl (fun hc => ?_) (fun hc => ?_) <;> try simp only [Bool.not_eq_eq_eq_not, Bool.not_true, Bool.not_false, decide_eq_true_eq, decide_eq_false_iff_not] at hc)
    | (with_reducible refine AW.seq ?_)
    | (with_reducible refine AW.skip ?_)
    | (with_reducible refine AW.ret ?_)
    | (with_reducible refine And.intro ?_ ?_)
    | (with_reducible intro hg; first | simp only [eq_false hg, decide_true, decide_false, and_true, true_and, and_false, false_and, not_true_eq_false, not_false_eq_true] | simp only [eq_true hg, decide_true, decide_false, and_true, true_and, and_false, false_and, not_true_eq_false, not_false_eq_true])
    | (with_reducible refine retQ_drop ?_; simp only [vRes, packRes, vLoad, vPart, lk, cond, Nat.reduceBEq, get_loc, getD_zero, getD_succ, true_and, List.length_cons, List.length_nil, Nat.reduceAdd, Nat.reduceLT, Nat.reduceLeDiff, List.take_succ_cons, List.take_zero, List.drop_succ_cons, List.drop_zero, vvar_3, vzero_3, vknd_3, vsn_3, vvar_4, vzero_4, vknd_4, vsn_4, vsl_76, vkn_76, vvar_76, vzero_76, vsl_77, vkn_77, vvar_77, vzero_77, vvar_92, vzero_92, vbld_92, vfld_92_0, vfld_92_1])
    )
  refine AW.loop (fun t : Nat => (⟨87, [(2, .ptr 1 (H.length + 0) 0 0), (5, .v (.int .i64 ((msk ns (tr.take t).flatten : Int)))), (13, .rd (.sli .i64) (psM ns tr)), (14, .v (.int .i64 ((tr.length : Int)))), (15, .v (.int .i64 ((t : Int))))], H, [.box false [.rd (.int .i64) mp, .rd (.int .i64) ma]]⟩ : St)) (fun t => t ≤ tr.length ∧ PreS ns AP AB tr t) (fun t => tr.length - t) 0 ⟨Nat.zero_le _, PreS.start ns AP AB tr⟩ (Weak.slots (by repeat' first | exact trivial | exact ⟨rfl, trivial⟩ | refine ⟨rfl, ?_⟩)) ?_
  intro t ⟨ht, hT⟩
  have hl1 := hf2 t
  have hrow := psM_get (ns := ns) (tr := tr) t
  have hrl := psI_len ns (tr.getD t [])
  have hsub := sub_flat hall t
  have hD := msk63 hlen hsub
  repeat' (first
    | (with_reducible refine AW.sreg envOk fun K hK => ?_)
    | (with_reducible refine AW.region envOk fun K hK => ?_)
    | (with_reducible refine vcL_nil ?_)
    | (with_reducible refine vcL_cons fun K' hK' => ?_; simp only [vAppend, elems, ↓reduceDIte, List.take_length, Nat.le_refl, List.drop_zero, vGuard, undef, Bool.not_eq_eq_eq_not, dstOk, vcOp, vcF, isPure, putS, vcCall, St.ev, St.put, lk, AVal.ofVal, initS, Nat.reduceLT, true_and, and_true, vBin, vUn, vPick, vConv, vPart, vLoad, vStore, vIdxA, vIdx, vFldA, vExt, vLen, vMin, vNil, vAlloc, vBox, vBuild, vBuildSl, vMake, vSlice, bnd, partsA, fillA, decAll, AVal.flat, AVal.cell, cellsOk, setRange, ETy.enc, ETy.dec, ETy.sz, ETy.d, cond, Nat.reduceBEq, Nat.reduceAdd, Int.toNat_natCast, List.length_set, List.length_append, List.length_replicate, List.length_take, Nat.reduceSub, Nat.reduceEqDiff, get_loc, setBox_loc, next_eq, List.length_cons, List.length_nil, List.map_cons, List.map_nil, List.append_nil, List.nil_append, List.cons_append, List.set_cons_zero, List.set_cons_succ, getD_zero, getD_succ, List.getElem?_cons_succ, List.getElem?_cons_zero, List.take_succ_cons, List.take_zero, List.drop_succ_cons, List.drop_zero, List.all_cons, List.all_nil, Bool.and_true, Bool.true_and, Option.bind_some, Option.map_some, Option.map_none, decide_eq_true_eq, decide_eq_false_iff_not, ne_eq, Bool.not_eq_true, Bool.not_eq_false, Decidable.not_not, not_true_eq_false, not_false_eq_true, forall_const, false_implies, Bool.true_eq_false, Bool.false_eq_true, reduceCtorEq, decide_true, decide_false, Bool.not_true, Bool.not_false, if_true, if_false, Nat.zero_add, Nat.lt_irrefl, Value.oneCell', gt_iff_lt, Nat.reduceLeDiff, Nat.lt_add_one, List.length_append, vMakeMap, vLookup, vMapUpd, vMapEnt, vEntSt, vRange, vEntry, KK.of, KK.av, lkRes, entry_last, vvar_3, vzero_3, vknd_3, vsn_3, vvar_4, vzero_4, vknd_4, vsn_4, vsl_76, vkn_76, vvar_76, vzero_76, vsl_77, vkn_77, vvar_77, vzero_77, vvar_92, vzero_92, vbld_92, vfld_92_0, vfld_92_1, hpl, hrow, hrl, hP1, hsn]; try simp (disch := omega) only [wrap64])
    | (with_reducible refine hK' _ ?_; clear hK' K')
    | (with_reducible refine hK _ ?_; clear hK K)
    | (with_reducible refine And.intro (And.intro rfl rfl) ?_)
    | (with_reducible refine And.intro (by omega) ?_)
    | (with_reducible refine And.intro (fun hg => ?_) (fun hg => ?_) <;> first | simp only [eq_false hg, decide_true, decide_false, and_true, true_and, and_false, false_and, not_true_eq_false, not_false_eq_true] | simp only [eq_true hg, decide_true, decide_false, and_true, true_and, and_false, false_and, not_true_eq_false, not_false_eq_true] | simp only [hg, decide_true, decide_false, and_true, true_and, and_false, false_and, not_true_eq_false, not_false_eq_true])
    | (with_reducible refine And.intro rfl (And.intro rfl rfl))
    | (with_reducible refine thenQ_n ?_)
    | (with_reducible refine thenQ_exit ?_)
    | (with_reducible refine thenQ_ret ?_)
    | (with_reducible refine midQ_ret ?_)
    | (with_reducible refine midQ_exit ?_)
    | (with_reducible refine blockQ_same ?_)
    | (with_reducible refine blockQ_ret ?_)
    | (with_reducible refine blockQ_n ?_)
    | (with_reducible refine AW.exit ?_)
    | (with_reducible refine AW.block ?_)
    | (with_reducible refine AW.cond_t rfl ?_)
    | (with_reducible refine AW.cond_f rfl ?_)
    | (with_reducible refine AW.cond_dec rfl (fun hc => ?_) (fun hc => ?_))
    | (with_reducible refine AW.cond rfl (fun hc => ?_) (fun hc => ?_) <;> try simp only [Bool.not_eq_eq_eq_not, Bool.not_true, Bool.not_false, decide_eq_true_eq, decide_eq_false_iff_not] at hc)
    | (with_reducible refine AW.seq ?_)
    | (with_reducible refine AW.skip ?_)
    | (with_reducible refine AW.ret ?_)
    | (with_reducible refine And.intro ?_ ?_)
    | (with_reducible intro hg; first | simp only [eq_false hg, decide_true, decide_false, and_true, true_and, and_false, false_and, not_true_eq_false, not_false_eq_true] | simp only [eq_true hg, decide_true, decide_false, and_true, true_and, and_false, false_and, not_true_eq_false, not_false_eq_true])
    | (with_reducible refine retQ_drop ?_; simp only [vRes, packRes, vLoad, vPart, lk, cond, Nat.reduceBEq, get_loc, getD_zero, getD_succ, true_and, List.length_cons, List.length_nil, Nat.reduceAdd, Nat.reduceLT, Nat.reduceLeDiff, List.take_succ_cons, List.take_zero, List.drop_succ_cons, List.drop_zero, vvar_3, vzero_3, vknd_3, vsn_3, vvar_4, vzero_4, vknd_4, vsn_4, vsl_76, vkn_76, vvar_76, vzero_76, vsl_77, vkn_77, vvar_77, vzero_77, vvar_92, vzero_92, vbld_92, vfld_92_0, vfld_92_1])
    )
  · have htt : t < tr.length := by omega
    have hin : ∀ j, j < (tr.getD t []).length → (tr.getD t []).getD j 0 ∈ ns := fun j hj => hall _ (getL_mem htt) _ (getD_mem' hj)
    have hsl : ∀ i, ∀ x ∈ (tr.getD t []).take i, x ∈ ns := fun i x hx => hall _ (getL_mem htt) _ (List.mem_of_mem_take hx)
    refine AW.loop (fun i : Nat => (⟨87, [(2, .ptr 1 (H.length + 0) 0 0), (5, .v (.int .i64 ((msk ns (tr.take t).flatten : Int)))), (7, .rd (.int .i64) (psI ns (tr.getD t []))), (8, .v (.int .i64 ((msk ns ((tr.getD t []).take i) : Int)))), (13, .rd (.sli .i64) (psM ns tr)), (14, .v (.int .i64 ((tr.length : Int)))), (15, .v (.int .i64 ((t : Int)))), (19, .rd (.int .i64) (psI ns (tr.getD t []))), (20, .v (.int .i64 (((tr.getD t []).length : Int)))), (21, .v (.int .i64 ((i : Int))))], H, [.box false [.rd (.int .i64) mp, .rd (.int .i64) ma]]⟩ : St)) (fun i => PreU ns AP tr t i) (fun i => (tr.getD t []).length - i) 0 hT.inner (Weak.slots (by repeat' first | exact trivial | exact ⟨rfl, trivial⟩ | refine ⟨rfl, ?_⟩)) ?_
    intro i hU
    have hile := hU.le
    by_cases hil : i < (tr.getD t []).length
    · have hx := hin i hil
      have hk := pos_lt hx
      have hpx := psI_get (ns := ns) hil
      have hpy := psI_get (ns := ns) (l := (tr.getD t [])) (i := i - 1) (by omega)
      have hi3 : ((i : Int) - 1).toNat = i - 1 := by omega
      have hbit := bit_k hD (show pos ns ((tr.getD t []).getD i 0) < 63 by omega)
      obtain ⟨m, hm, hml, hmb⟩ := hP2 _ hk
      rw [pos_get hx] at hmb
      have hM := msk63 hlen (hsl i)
      have hand := bitAnd_nat (a := m) (by omega) hM
      have hsk := shl_k (k := pos ns ((tr.getD t []).getD i 0)) (by omega)
      have hor : bitOr .i64 (msk ns ((tr.getD t []).take i) : Int) ((2 ^ pos ns ((tr.getD t []).getD i 0) : Nat) : Int) = (msk ns ((tr.getD t []).take (i + 1)) : Int) := by
        rw [bitOr_nat hM (Nat.pow_lt_pow_right (by decide) (by omega)), take_snoc hil, msk_snoc]
      have fb := pos_bit hn hsub hx
      have fc : m &&& msk ns ((tr.getD t []).take i) = 0 ↔ ∀ y ∈ (tr.getD t []).take i, ¬ AP ((tr.getD t []).getD i 0) y := by
        rw [and_zero]
        constructor
        · intro h y hy hap
          have hyn := hsl i y hy
          refine h (pos ns y) ((hmb _).2 ⟨pos_lt hyn, by rw [pos_get hyn]; exact hap⟩) ((pos_bit hn (hsl i) hyn).2 hy)
        · intro h j h1 h2
          obtain ⟨h3, h4⟩ := (hmb j).1 h1
          exact h _ ((msk_bit hn (hsl i)).1 h2).2 h4
      repeat' (first
        | (with_reducible refine AW.sreg envOk fun K hK => ?_)
        | (with_reducible refine AW.region envOk fun K hK => ?_)
        | (with_reducible refine vcL_nil ?_)
        | (with_reducible refine vcL_cons fun K' hK' => ?_; simp only [vAppend, elems, ↓reduceDIte, List.take_length, Nat.le_refl, List.drop_zero, vGuard, undef, Bool.not_eq_eq_eq_not, dstOk, vcOp, vcF, isPure, putS, vcCall, St.ev, St.put, lk, AVal.ofVal, initS, Nat.reduceLT, true_and, and_true, vBin, vUn, vPick, vConv, vPart, vLoad, vStore, vIdxA, vIdx, vFldA, vExt, vLen, vMin, vNil, vAlloc, vBox, vBuild, vBuildSl, vMake, vSlice, bnd, partsA, fillA, decAll, AVal.flat, AVal.cell, cellsOk, setRange, ETy.enc, ETy.dec, ETy.sz, ETy.d, cond, Nat.reduceBEq, Nat.reduceAdd, Int.toNat_natCast, List.length_set, List.length_append, List.length_replicate, List.length_take, Nat.reduceSub, Nat.reduceEqDiff, get_loc, setBox_loc, next_eq, List.length_cons, List.length_nil, List.map_cons, List.map_nil, List.append_nil, List.nil_append, List.cons_append, List.set_cons_zero, List.set_cons_succ, getD_zero, getD_succ, List.getElem?_cons_succ, List.getElem?_cons_zero, List.take_succ_cons, List.take_zero, List.drop_succ_cons, List.drop_zero, List.all_cons, List.all_nil, Bool.and_true, Bool.true_and, Option.bind_some, Option.map_some, Option.map_none, decide_eq_true_eq, decide_eq_false_iff_not, ne_eq, Bool.not_eq_true, Bool.not_eq_false, Decidable.not_not, not_true_eq_false, not_false_eq_true, forall_const, false_implies, Bool.true_eq_false, Bool.false_eq_true, reduceCtorEq, decide_true, decide_false, Bool.not_true, Bool.not_false, if_true, if_false, Nat.zero_add, Nat.lt_irrefl, Value.oneCell', gt_iff_lt, Nat.reduceLeDiff, Nat.lt_add_one, List.length_append, vMakeMap, vLookup, vMapUpd, vMapEnt, vEntSt, vRange, vEntry, KK.of, KK.av, lkRes, entry_last, vvar_3, vzero_3, vknd_3, vsn_3, vvar_4, vzero_4, vknd_4, vsn_4, vsl_76, vkn_76, vvar_76, vzero_76, vsl_77, vkn_77, vvar_77, vzero_77, vvar_92, vzero_92, vbld_92, vfld_92_0, vfld_92_1, hpx, hpy, hi3, hbit, hm, hand, hsk, hor, hP1]; try simp (disch := omega) only [wrap64])
        | (with_reducible refine hK' _ ?_; clear hK' K')
        | (with_reducible refine hK _ ?_; clear hK K)
        | (with_reducible refine And.intro (And.intro rfl rfl) ?_)
        | (with_reducible refine And.intro (by omega) ?_)
        | (with_reducible refine And.intro (fun hg => ?_) (fun hg => ?_) <;> first | simp only [eq_false hg, decide_true, decide_false, and_true, true_and, and_false, false_and, not_true_eq_false, not_false_eq_true] | simp only [eq_true hg, decide_true, decide_false, and_true, true_and, and_false, false_and, not_true_eq_false, not_false_eq_true] | simp only [hg, decide_true, decide_false, and_true, true_and, and_false, false_and, not_true_eq_false, not_false_eq_true])
        | (with_reducible refine And.intro rfl (And.intro rfl rfl))
        | (with_reducible refine thenQ_n ?_)
        | (with_reducible refine thenQ_exit ?_)
        | (with_reducible refine thenQ_ret ?_)
        | (with_reducible refine midQ_ret ?_)
        | (with_reducible refine midQ_exit ?_)
        | (with_reducible refine blockQ_same ?_)
        | (with_reducible refine blockQ_ret ?_)
        | (with_reducible refine blockQ_n ?_)
        | (with_reducible refine AW.exit ?_)
        | (with_reducible refine AW.block ?_)
        | (with_reducible refine AW.cond_t rfl ?_)
        | (with_reducible refine AW.cond_f rfl ?_)
        | (with_reducible refine AW.cond_dec rfl (fun hc => ?_) (fun hc => ?_))
        | (with_reducible refine AW.cond rfl (fun hc => ?_) (fun hc => ?_) <;> try simp only [Bool.not_eq_eq_eq_not, Bool.not_true, Bool.not_false, decide_eq_true_eq, decide_eq_false_iff_not] at hc)
        | (with_reducible refine AW.seq ?_)
        | (with_reducible refine AW.skip ?_)
        | (with_reducible refine AW.ret ?_)
        | (with_reducible refine And.intro ?_ ?_)
        | (with_reducible intro hg; first | simp only [eq_false hg, decide_true, decide_false, and_true, true_and, and_false, false_and, not_true_eq_false, not_false_eq_true] | simp only [eq_true hg, decide_true, decide_false, and_true, true_and, and_false, false_and, not_true_eq_false, not_false_eq_true])
        | (with_reducible refine retQ_drop ?_; simp only [vRes, packRes, vLoad, vPart, lk, cond, Nat.reduceBEq, get_loc, getD_zero, getD_succ, true_and, List.length_cons, List.length_nil, Nat.reduceAdd, Nat.reduceLT, Nat.reduceLeDiff, List.take_succ_cons, List.take_zero, List.drop_succ_cons, List.drop_zero, vvar_3, vzero_3, vknd_3, vsn_3, vvar_4, vzero_4, vknd_4, vsn_4, vsl_76, vkn_76, vvar_76, vzero_76, vsl_77, vkn_77, vvar_77, vzero_77, vvar_92, vzero_92, vbld_92, vfld_92_0, vfld_92_1])
        )
      all_goals first
        | (exfalso; omega)
        | (refine ⟨i + 1, hU.step hirr hsym hil (fun h0 => (pos_mono hs (hin _ (by omega)) hx).1 (by omega)) (fun hmm => absurd (show (if (msk ns (tr.take t).flatten).testBit (pos ns ((tr.getD t []).getD i 0)) = true then (1 : Int) else 0) = 1 from if_pos (fb.2 hmm)) (by assumption)) (fc.1 (by omega)), by omega, (Weak.slots (by repeat' first | exact trivial | exact ⟨rfl, trivial⟩ | refine ⟨rfl, ?_⟩))⟩)
        | (refine ⟨_, _, FinOk.drop hB (Pl.ids (by (repeat' (first | exact Pl.v _ | exact Pl.junk | exact Pl.rd rfl _ | exact pl_nil | refine pl_cons ?_ ?_ | refine Pl.agg ?_ | refine Pl.tup ?_ | refine Pl.rp ?_ | refine Pl.fn ?_)); (first | done | fail))), ?_, rfl⟩
           refine v_bool ?_
           simp only [Bool.false_eq_true, false_iff]
           intro g
           first
             | (have h1 := pw_at (g.at htt).2.1 (i := i) (j := i - 1) (by omega) (by omega)
                rw [← pos_mono hs (hin _ (by omega)) hx] at h1
                omega)
             | (refine (once_at g.once htt hil) (List.mem_append.2 (.inl (fb.1 (Decidable.byContradiction fun h => ?_))))
                have h2 : (if (msk ns (tr.take t).flatten).testBit (pos ns ((tr.getD t []).getD i 0)) = true then (1 : Int) else 0) = 1 := by assumption
                rw [if_neg h] at h2
                omega)
             | (have h2 : ¬ ((m &&& msk ns ((tr.getD t []).take i) : Nat) : Int) = 0 := by assumption
                exact h2 (by rw [fc.2 (fun y hy => g.apart _ (getL_mem htt) _ (getD_mem' hil) _ (List.mem_of_mem_take hy))]; rfl)))
    · obtain rfl : i = (tr.getD t []).length := by omega
      have hU2 := hU
      rw [List.take_length]
      have hsl2 := hsl (tr.getD t []).length
      rw [List.take_length] at hsl2
      have hM := msk63 hlen hsl2
      repeat' (first
        | (with_reducible refine AW.sreg envOk fun K hK => ?_)
        | (with_reducible refine AW.region envOk fun K hK => ?_)
        | (with_reducible refine vcL_nil ?_)
        | (with_reducible refine vcL_cons fun K' hK' => ?_; simp only [vAppend, elems, ↓reduceDIte, List.take_length, Nat.le_refl, List.drop_zero, vGuard, undef, Bool.not_eq_eq_eq_not, dstOk, vcOp, vcF, isPure, putS, vcCall, St.ev, St.put, lk, AVal.ofVal, initS, Nat.reduceLT, true_and, and_true, vBin, vUn, vPick, vConv, vPart, vLoad, vStore, vIdxA, vIdx, vFldA, vExt, vLen, vMin, vNil, vAlloc, vBox, vBuild, vBuildSl, vMake, vSlice, bnd, partsA, fillA, decAll, AVal.flat, AVal.cell, cellsOk, setRange, ETy.enc, ETy.dec, ETy.sz, ETy.d, cond, Nat.reduceBEq, Nat.reduceAdd, Int.toNat_natCast, List.length_set, List.length_append, List.length_replicate, List.length_take, Nat.reduceSub, Nat.reduceEqDiff, get_loc, setBox_loc, next_eq, List.length_cons, List.length_nil, List.map_cons, List.map_nil, List.append_nil, List.nil_append, List.cons_append, List.set_cons_zero, List.set_cons_succ, getD_zero, getD_succ, List.getElem?_cons_succ, List.getElem?_cons_zero, List.take_succ_cons, List.take_zero, List.drop_succ_cons, List.drop_zero, List.all_cons, List.all_nil, Bool.and_true, Bool.true_and, Option.bind_some, Option.map_some, Option.map_none, decide_eq_true_eq, decide_eq_false_iff_not, ne_eq, Bool.not_eq_true, Bool.not_eq_false, Decidable.not_not, not_true_eq_false, not_false_eq_true, forall_const, false_implies, Bool.true_eq_false, Bool.false_eq_true, reduceCtorEq, decide_true, decide_false, Bool.not_true, Bool.not_false, if_true, if_false, Nat.zero_add, Nat.lt_irrefl, Value.oneCell', gt_iff_lt, Nat.reduceLeDiff, Nat.lt_add_one, List.length_append, vMakeMap, vLookup, vMapUpd, vMapEnt, vEntSt, vRange, vEntry, KK.of, KK.av, lkRes, entry_last, vvar_3, vzero_3, vknd_3, vsn_3, vvar_4, vzero_4, vknd_4, vsn_4, vsl_76, vkn_76, vvar_76, vzero_76, vsl_77, vkn_77, vvar_77, vzero_77, vvar_92, vzero_92, vbld_92, vfld_92_0, vfld_92_1, hrl]; try simp (disch := omega) only [wrap64])
        | (with_reducible refine hK' _ ?_; clear hK' K')
        | (with_reducible refine hK _ ?_; clear hK K)
        | (with_reducible refine And.intro (And.intro rfl rfl) ?_)
        | (with_reducible refine And.intro (by omega) ?_)
        | (with_reducible refine And.intro (fun hg => ?_) (fun hg => ?_) <;> first | simp only [eq_false hg, decide_true, decide_false, and_true, true_and, and_false, false_and, not_true_eq_false, not_false_eq_true] | simp only [eq_true hg, decide_true, decide_false, and_true, true_and, and_false, false_and, not_true_eq_false, not_false_eq_true] | simp only [hg, decide_true, decide_false, and_true, true_and, and_false, false_and, not_true_eq_false, not_false_eq_true])
        | (with_reducible refine And.intro rfl (And.intro rfl rfl))
        | (with_reducible refine thenQ_n ?_)
        | (with_reducible refine thenQ_exit ?_)
        | (with_reducible refine thenQ_ret ?_)
        | (with_reducible refine midQ_ret ?_)
        | (with_reducible refine midQ_exit ?_)
        | (with_reducible refine blockQ_same ?_)
        | (with_reducible refine blockQ_ret ?_)
        | (with_reducible refine blockQ_n ?_)
        | (with_reducible refine AW.exit ?_)
        | (with_reducible refine AW.block ?_)
        | (with_reducible refine AW.cond_t rfl ?_)
        | (with_reducible refine AW.cond_f rfl ?_)
        | (with_reducible refine AW.cond_dec rfl (fun hc => ?_) (fun hc => ?_))
        | (with_reducible refine AW.cond rfl (fun hc => ?_) (fun hc => ?_) <;> try simp only [Bool.not_eq_eq_eq_not, Bool.not_true, Bool.not_false, decide_eq_true_eq, decide_eq_false_iff_not] at hc)
        | (with_reducible refine AW.seq ?_)
        | (with_reducible refine AW.skip ?_)
        | (with_reducible refine AW.ret ?_)
        | (with_reducible refine And.intro ?_ ?_)
        | (with_reducible intro hg; first | simp only [eq_false hg, decide_true, decide_false, and_true, true_and, and_false, false_and, not_true_eq_false, not_false_eq_true] | simp only [eq_true hg, decide_true, decide_false, and_true, true_and, and_false, false_and, not_true_eq_false, not_false_eq_true])
        | (with_reducible refine retQ_drop ?_; simp only [vRes, packRes, vLoad, vPart, lk, cond, Nat.reduceBEq, get_loc, getD_zero, getD_succ, true_and, List.length_cons, List.length_nil, Nat.reduceAdd, Nat.reduceLT, Nat.reduceLeDiff, List.take_succ_cons, List.take_zero, List.drop_succ_cons, List.drop_zero, vvar_3, vzero_3, vknd_3, vsn_3, vvar_4, vzero_4, vknd_4, vsn_4, vsl_76, vkn_76, vvar_76, vzero_76, vsl_77, vkn_77, vvar_77, vzero_77, vvar_92, vzero_92, vbld_92, vfld_92_0, vfld_92_1])
        )
      · exfalso; omega
      · refine ⟨_, _, FinOk.drop hB (Pl.ids (by (repeat' (first | exact Pl.v _ | exact Pl.junk | exact Pl.rd rfl _ | exact pl_nil | refine pl_cons ?_ ?_ | refine Pl.agg ?_ | refine Pl.tup ?_ | refine Pl.rp ?_ | refine Pl.fn ?_)); (first | done | fail))), ?_, rfl⟩
        refine v_bool ?_
        simp only [Bool.false_eq_true, false_iff]
        intro g
        exact (g.at htt).1 ((msk_zero (ns := ns)).1 (by omega))
      · have hne : (tr.getD t []) ≠ [] := fun e => by
          have h1 : ¬ (msk ns (tr.getD t []) : Int) = 0 := by assumption
          rw [e] at h1
          exact h1 rfl
        refine AW.loop (fun q : Nat => (⟨87, [(2, .ptr 1 (H.length + 0) 0 0), (5, .v (.int .i64 ((msk ns (tr.take t).flatten : Int)))), (8, .v (.int .i64 ((msk ns (tr.getD t []) : Int)))), (13, .rd (.sli .i64) (psM ns tr)), (14, .v (.int .i64 ((tr.length : Int)))), (15, .v (.int .i64 ((t : Int)))), (61, .rd (.int .i64) (psI ns (tr.getD t []))), (62, .v (.int .i64 (((tr.getD t []).length : Int)))), (63, .v (.int .i64 ((q : Int))))], H, [.box false [.rd (.int .i64) mp, .rd (.int .i64) ma]]⟩ : St)) (fun q => q ≤ (tr.getD t []).length ∧ ∀ j, j < q → ∀ x ∈ ns, AB x ((tr.getD t []).getD j 0) → x ∈ (tr.take t).flatten) (fun q => (tr.getD t []).length - q) 0 ⟨Nat.zero_le _, fun j hj => absurd hj (by omega)⟩ (Weak.slots (by repeat' first | exact trivial | exact ⟨rfl, trivial⟩ | refine ⟨rfl, ?_⟩)) ?_
        intro q ⟨hq, hQ⟩
        by_cases hql : q < (tr.getD t []).length
        · have hx := hin q hql
          have hk := pos_lt hx
          have hpx := psI_get (ns := ns) hql
          obtain ⟨m, hm, hml, hmb⟩ := hA2 _ hk
          rw [pos_get hx] at hmb
          have hand := bitAndNot_nat (a := m) (by omega) hD
          have fd : m ^^^ (m &&& msk ns (tr.take t).flatten) = 0 ↔ ∀ x ∈ ns, AB x ((tr.getD t []).getD q 0) → x ∈ (tr.take t).flatten := by
            rw [andNot_zero]
            constructor
            · intro h x hxn hab
              exact (pos_bit hn hsub hxn).1 (h (pos ns x) ((hmb _).2 ⟨pos_lt hxn, by rw [pos_get hxn]; exact hab⟩))
            · intro h j h1
              obtain ⟨h3, h4⟩ := (hmb j).1 h1
              exact (msk_bit hn hsub).2 ⟨h3, h _ (getD_mem' h3) h4⟩
          repeat' (first
            | (with_reducible refine AW.sreg envOk fun K hK => ?_)
            | (with_reducible refine AW.region envOk fun K hK => ?_)
            | (with_reducible refine vcL_nil ?_)
            | (with_reducible refine vcL_cons fun K' hK' => ?_; simp only [vAppend, elems, ↓reduceDIte, List.take_length, Nat.le_refl, List.drop_zero, vGuard, undef, Bool.not_eq_eq_eq_not, dstOk, vcOp, vcF, isPure, putS, vcCall, St.ev, St.put, lk, AVal.ofVal, initS, Nat.reduceLT, true_and, and_true, vBin, vUn, vPick, vConv, vPart, vLoad, vStore, vIdxA, vIdx, vFldA, vExt, vLen, vMin, vNil, vAlloc, vBox, vBuild, vBuildSl, vMake, vSlice, bnd, partsA, fillA, decAll, AVal.flat, AVal.cell, cellsOk, setRange, ETy.enc, ETy.dec, ETy.sz, ETy.d, cond, Nat.reduceBEq, Nat.reduceAdd, Int.toNat_natCast, List.length_set, List.length_append, List.length_replicate, List.length_take, Nat.reduceSub, Nat.reduceEqDiff, get_loc, setBox_loc, next_eq, List.length_cons, List.length_nil, List.map_cons, List.map_nil, List.append_nil, List.nil_append, List.cons_append, List.set_cons_zero, List.set_cons_succ, getD_zero, getD_succ, List.getElem?_cons_succ, List.getElem?_cons_zero, List.take_succ_cons, List.take_zero, List.drop_succ_cons, List.drop_zero, List.all_cons, List.all_nil, Bool.and_true, Bool.true_and, Option.bind_some, Option.map_some, Option.map_none, decide_eq_true_eq, decide_eq_false_iff_not, ne_eq, Bool.not_eq_true, Bool.not_eq_false, Decidable.not_not, not_true_eq_false, not_false_eq_true, forall_const, false_implies, Bool.true_eq_false, Bool.false_eq_true, reduceCtorEq, decide_true, decide_false, Bool.not_true, Bool.not_false, if_true, if_false, Nat.zero_add, Nat.lt_irrefl, Value.oneCell', gt_iff_lt, Nat.reduceLeDiff, Nat.lt_add_one, List.length_append, vMakeMap, vLookup, vMapUpd, vMapEnt, vEntSt, vRange, vEntry, KK.of, KK.av, lkRes, entry_last, vvar_3, vzero_3, vknd_3, vsn_3, vvar_4, vzero_4, vknd_4, vsn_4, vsl_76, vkn_76, vvar_76, vzero_76, vsl_77, vkn_77, vvar_77, vzero_77, vvar_92, vzero_92, vbld_92, vfld_92_0, vfld_92_1, hpx, hm, hand, hA1]; try simp (disch := omega) only [wrap64])
            | (with_reducible refine hK' _ ?_; clear hK' K')
            | (with_reducible refine hK _ ?_; clear hK K)
            | (with_reducible refine And.intro (And.intro rfl rfl) ?_)
            | (with_reducible refine And.intro (by omega) ?_)
            | (with_reducible refine And.intro (fun hg => ?_) (fun hg => ?_) <;> first | simp only [eq_false hg, decide_true, decide_false, and_true, true_and, and_false, false_and, not_true_eq_false, not_false_eq_true] | simp only [eq_true hg, decide_true, decide_false, and_true, true_and, and_false, false_and, not_true_eq_false, not_false_eq_true] | simp only [hg, decide_true, decide_false, and_true, true_and, and_false, false_and, not_true_eq_false, not_false_eq_true])
            | (with_reducible refine And.intro rfl (And.intro rfl rfl))
            | (with_reducible refine thenQ_n ?_)
            | (with_reducible refine thenQ_exit ?_)
            | (with_reducible refine thenQ_ret ?_)
            | (with_reducible refine midQ_ret ?_)
            | (with_reducible refine midQ_exit ?_)
            | (with_reducible refine blockQ_same ?_)
            | (with_reducible refine blockQ_ret ?_)
            | (with_reducible refine blockQ_n ?_)
            | (with_reducible refine AW.exit ?_)
            | (with_reducible refine AW.block ?_)
            | (with_reducible refine AW.cond_t rfl ?_)
            | (with_reducible refine AW.cond_f rfl ?_)
            | (with_reducible refine AW.cond_dec rfl (fun hc => ?_) (fun hc => ?_))
            | (with_reducible refine AW.cond rfl (fun hc => ?_) (fun hc => ?_) <;> try simp only [Bool.not_eq_eq_eq_not, Bool.not_true, Bool.not_false, decide_eq_true_eq, decide_eq_false_iff_not] at hc)
            | (with_reducible refine AW.seq ?_)
            | (with_reducible refine AW.skip ?_)
            | (with_reducible refine AW.ret ?_)
            | (with_reducible refine And.intro ?_ ?_)
            | (with_reducible intro hg; first | simp only [eq_false hg, decide_true, decide_false, and_true, true_and, and_false, false_and, not_true_eq_false, not_false_eq_true] | simp only [eq_true hg, decide_true, decide_false, and_true, true_and, and_false, false_and, not_true_eq_false, not_false_eq_true])
            | (with_reducible refine retQ_drop ?_; simp only [vRes, packRes, vLoad, vPart, lk, cond, Nat.reduceBEq, get_loc, getD_zero, getD_succ, true_and, List.length_cons, List.length_nil, Nat.reduceAdd, Nat.reduceLT, Nat.reduceLeDiff, List.take_succ_cons, List.take_zero, List.drop_succ_cons, List.drop_zero, vvar_3, vzero_3, vknd_3, vsn_3, vvar_4, vzero_4, vknd_4, vsn_4, vsl_76, vkn_76, vvar_76, vzero_76, vsl_77, vkn_77, vvar_77, vzero_77, vvar_92, vzero_92, vbld_92, vfld_92_0, vfld_92_1])
            )
          all_goals first
            | (exfalso; omega)
            | (refine ⟨q + 1, ⟨by omega, fun j hj => ?_⟩, by omega, (Weak.slots (by repeat' first | exact trivial | exact ⟨rfl, trivial⟩ | refine ⟨rfl, ?_⟩))⟩
               by_cases e : j = q
               · rw [e]; exact fd.1 (by omega)
               · exact hQ j (by omega))
            | (refine ⟨_, _, FinOk.drop hB (Pl.ids (by (repeat' (first | exact Pl.v _ | exact Pl.junk | exact Pl.rd rfl _ | exact pl_nil | refine pl_cons ?_ ?_ | refine Pl.agg ?_ | refine Pl.tup ?_ | refine Pl.rp ?_ | refine Pl.fn ?_)); (first | done | fail))), ?_, rfl⟩
               refine v_bool ?_
               simp only [Bool.false_eq_true, false_iff]
               intro g
               have h2 : ¬ ((m ^^^ (m &&& msk ns (tr.take t).flatten) : Nat) : Int) = 0 := by assumption
               exact h2 (by rw [fd.2 (fun x hxn hab => g.above t htt _ (getD_mem' hql) x hxn hab)]; rfl))
        · obtain rfl : q = (tr.getD t []).length := by omega
          have hor := bitOr_nat hD hM
          rw [← msk_app, ← flat_snoc htt] at hor
          repeat' (first
            | (with_reducible refine AW.sreg envOk fun K hK => ?_)
            | (with_reducible refine AW.region envOk fun K hK => ?_)
            | (with_reducible refine vcL_nil ?_)
            | (with_reducible refine vcL_cons fun K' hK' => ?_; simp only [vAppend, elems, ↓reduceDIte, List.take_length, Nat.le_refl, List.drop_zero, vGuard, undef, Bool.not_eq_eq_eq_not, dstOk, vcOp, vcF, isPure, putS, vcCall, St.ev, St.put, lk, AVal.ofVal, initS, Nat.reduceLT, true_and, and_true, vBin, vUn, vPick, vConv, vPart, vLoad, vStore, vIdxA, vIdx, vFldA, vExt, vLen, vMin, vNil, vAlloc, vBox, vBuild, vBuildSl, vMake, vSlice, bnd, partsA, fillA, decAll, AVal.flat, AVal.cell, cellsOk, setRange, ETy.enc, ETy.dec, ETy.sz, ETy.d, cond, Nat.reduceBEq, Nat.reduceAdd, Int.toNat_natCast, List.length_set, List.length_append, List.length_replicate, List.length_take, Nat.reduceSub, Nat.reduceEqDiff, get_loc, setBox_loc, next_eq, List.length_cons, List.length_nil, List.map_cons, List.map_nil, List.append_nil, List.nil_append, List.cons_append, List.set_cons_zero, List.set_cons_succ, getD_zero, getD_succ, List.getElem?_cons_succ, List.getElem?_cons_zero, List.take_succ_cons, List.take_zero, List.drop_succ_cons, List.drop_zero, List.all_cons, List.all_nil, Bool.and_true, Bool.true_and, Option.bind_some, Option.map_some, Option.map_none, decide_eq_true_eq, decide_eq_false_iff_not, ne_eq, Bool.not_eq_true, Bool.not_eq_false, Decidable.not_not, not_true_eq_false, not_false_eq_true, forall_const, false_implies, Bool.true_eq_false, Bool.false_eq_true, reduceCtorEq, decide_true, decide_false, Bool.not_true, Bool.not_false, if_true, if_false, Nat.zero_add, Nat.lt_irrefl, Value.oneCell', gt_iff_lt, Nat.reduceLeDiff, Nat.lt_add_one, List.length_append, vMakeMap, vLookup, vMapUpd, vMapEnt, vEntSt, vRange, vEntry, KK.of, KK.av, lkRes, entry_last, vvar_3, vzero_3, vknd_3, vsn_3, vvar_4, vzero_4, vknd_4, vsn_4, vsl_76, vkn_76, vvar_76, vzero_76, vsl_77, vkn_77, vvar_77, vzero_77, vvar_92, vzero_92, vbld_92, vfld_92_0, vfld_92_1, hor]; try simp (disch := omega) only [wrap64])
            | (with_reducible refine hK' _ ?_; clear hK' K')
            | (with_reducible refine hK _ ?_; clear hK K)
            | (with_reducible refine And.intro (And.intro rfl rfl) ?_)
            | (with_reducible refine And.intro (by omega) ?_)
            | (with_reducible refine And.intro (fun hg => ?_) (fun hg => ?_) <;> first | simp only [eq_false hg, decide_true, decide_false, and_true, true_and, and_false, false_and, not_true_eq_false, not_false_eq_true] | simp only [eq_true hg, decide_true, decide_false, and_true, true_and, and_false, false_and, not_true_eq_false, not_false_eq_true] | simp only [hg, decide_true, decide_false, and_true, true_and, and_false, false_and, not_true_eq_false, not_false_eq_true])
            | (with_reducible refine And.intro rfl (And.intro rfl rfl))
            | (with_reducible refine thenQ_n ?_)
            | (with_reducible refine thenQ_exit ?_)
            | (with_reducible refine thenQ_ret ?_)
            | (with_reducible refine midQ_ret ?_)
            | (with_reducible refine midQ_exit ?_)
            | (with_reducible refine blockQ_same ?_)
            | (with_reducible refine blockQ_ret ?_)
            | (with_reducible refine blockQ_n ?_)
            | (with_reducible refine AW.exit ?_)
            | (with_reducible refine AW.block ?_)
            | (with_reducible refine AW.cond_t rfl ?_)
            | (with_reducible refine AW.cond_f rfl ?_)
            | (with_reducible refine AW.cond_dec rfl (fun hc => ?_) (fun hc => ?_))
            | (with_reducible refine AW.cond rfl (fun hc => ?_) (fun hc => ?_) <;> try simp only [Bool.not_eq_eq_eq_not, Bool.not_true, Bool.not_false, decide_eq_true_eq, decide_eq_false_iff_not] at hc)
            | (with_reducible refine AW.seq ?_)
            | (with_reducible refine AW.skip ?_)
            | (with_reducible refine AW.ret ?_)
            | (with_reducible refine And.intro ?_ ?_)
            | (with_reducible intro hg; first | simp only [eq_false hg, decide_true, decide_false, and_true, true_and, and_false, false_and, not_true_eq_false, not_false_eq_true] | simp only [eq_true hg, decide_true, decide_false, and_true, true_and, and_false, false_and, not_true_eq_false, not_false_eq_true])
            | (with_reducible refine retQ_drop ?_; simp only [vRes, packRes, vLoad, vPart, lk, cond, Nat.reduceBEq, get_loc, getD_zero, getD_succ, true_and, List.length_cons, List.length_nil, Nat.reduceAdd, Nat.reduceLT, Nat.reduceLeDiff, List.take_succ_cons, List.take_zero, List.drop_succ_cons, List.drop_zero, vvar_3, vzero_3, vknd_3, vsn_3, vvar_4, vzero_4, vknd_4, vsn_4, vsl_76, vkn_76, vvar_76, vzero_76, vsl_77, vkn_77, vvar_77, vzero_77, vvar_92, vzero_92, vbld_92, vfld_92_0, vfld_92_1])
            )
          · exfalso; omega
          all_goals first
            | (exfalso; omega)
            | (refine ⟨t + 1, ⟨by omega, hT.next htt hne hU2 (fun y hy x hxn hab => ?_)⟩, by omega, (Weak.slots (by repeat' first | exact trivial | exact ⟨rfl, trivial⟩ | refine ⟨rfl, ?_⟩))⟩
               obtain ⟨j, h1, rfl⟩ := mem_getD hy
               exact hQ j h1 x hxn hab)
  · obtain rfl : t = tr.length := by omega
    have hsub2 := hsub
    rw [List.take_length] at hsub2
    have e1 : IntKind.i64.wrap (((2 ^ ns.length : Nat) : Int) - 1) = ((2 ^ ns.length - 1 : Nat) : Int) := by
      have hpos := Nat.two_pow_pos ns.length
      generalize 2 ^ ns.length = m at hpos h63 ⊢
      rw [wrap64 (by omega)]
      omega
    refine ⟨_, _, FinOk.drop hB (Pl.ids (by (repeat' (first | exact Pl.v _ | exact Pl.junk | exact Pl.rd rfl _ | exact pl_nil | refine pl_cons ?_ ?_ | refine Pl.agg ?_ | refine Pl.tup ?_ | refine Pl.rp ?_ | refine Pl.fn ?_)); (first | done | fail))), ?_, rfl⟩
    refine v_bool ?_
    rw [decide_eq_true_eq, e1, List.take_length, ← hT.good hall, ← msk_all hn hsub2]
    omega
end Go.Proofs.Ytdphlhplcmjepaa

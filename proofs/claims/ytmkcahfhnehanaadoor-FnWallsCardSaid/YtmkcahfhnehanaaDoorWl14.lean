/- Texts of this seat that the law stands on, put together. No conditions. -/
import Derived.Lib.SliceRun
import Derived.Lib.AppendZerosOnto
import Derived.Test.YtmkcahfhnehanaaDoorWl13
section
set_option linter.unusedSimpArgs false
set_option linter.unusedVariables false
namespace Go.Proofs.YtmkcahfhnehanaaDoor
open Go.Eng Go.RowKit Go.Lib
end Go.Proofs.YtmkcahfhnehanaaDoor
end
section
set_option linter.unusedSimpArgs false
set_option linter.unusedVariables false
namespace Go.Proofs.YtmkcahfhnehanaaDoor
open Go.Eng
abbrev Ch := List Int × List Int
def HasC (c : Ch) (net : Int) (i : Nat) : Prop := c.1.getD i 0 = net ∨ c.2.getD i 0 = net
instance (c : Ch) (net : Int) (i : Nat) : Decidable (HasC c net i) := by unfold HasC; exact inferInstance
/-- The columns below i with pins of a net. -/
def colsTo (c : Ch) (net : Int) : Nat → List Int
  | 0 => []
  | i + 1 => if HasC c net i then colsTo c net i ++ [(i : Int)] else colsTo c net i
def cols (c : Ch) (net : Int) : List Int := colsTo c net c.1.length
/-- The first and the last of them; -1 if there are none. -/
def spanTo (c : Ch) (net : Int) : Nat → Int × Int
  | 0 => (-1, -1)
  | i + 1 => if HasC c net i then (if (spanTo c net i).1 < 0 then (i : Int) else (spanTo c net i).1, (i : Int)) else spanTo c net i
def span (c : Ch) (net : Int) : Int × Int := spanTo c net c.1.length
/-- The nets up to n that need a track. -/
def netsTo (c : Ch) : Nat → List Int
  | 0 => []
  | n + 1 => if 1 < (cols c ((n : Int) + 1)).length then netsTo c n ++ [(n : Int) + 1] else netsTo c n
def nets (c : Ch) : List Int := netsTo c 12
/-- How many of the first i nets have a column in their span. -/
def densTo (c : Ch) (col : Int) : Nat → Int
  | 0 => 0
  | i + 1 => if (span c ((nets c).getD i 0)).1 ≤ col ∧ col ≤ (span c ((nets c).getD i 0)).2 then densTo c col i + 1 else densTo c col i
def dens (c : Ch) (col : Int) : Int := densTo c col (nets c).length
def mostTo (c : Ch) : Nat → Int
  | 0 => 0
  | i + 1 => max (mostTo c i) (dens c i)
def most (c : Ch) : Int := mostTo c c.1.length
/-- Is a channel valid? -/
def ChOk (c : Ch) : Prop := (1 ≤ c.1.length ∧ c.1.length ≤ 24 ∧ c.2.length = c.1.length) ∧ (∀ x ∈ c.1 ++ c.2, 0 ≤ x ∧ x ≤ 12) ∧ ∀ k : Int, 1 ≤ k → k ≤ 12 → (c.1 ++ c.2).count k ≠ 1
noncomputable instance (c : Ch) : Decidable (ChOk c) := Classical.propDecidable _
end Go.Proofs.YtmkcahfhnehanaaDoor
end
section
set_option linter.unusedSimpArgs false
set_option linter.unusedVariables false
namespace Go.Proofs.YtmkcahfhnehanaaDoor
open Go.Eng
end Go.Proofs.YtmkcahfhnehanaaDoor
end
section
set_option linter.unusedSimpArgs false
set_option linter.unusedVariables false
set_option maxHeartbeats 1000000
namespace Go.Proofs.YtmkcahfhnehanaaDoor
open Go.Eng
theorem in51_ac (a b c : Int) (H : List ABox) : AC Tryd.prog 33 [.v (.int .i64 (a)), .v (.int .i64 (b)), .v (.int .i64 (c))] H (fun r H' => r = .v (.bool (decide (b ≤ a ∧ a ≤ c))) ∧ H' = H) := by
  refine AC.enter envOk Tryd.func33 rfl (by decide) Tryd.ntmps33 Tryd.results33 (by simp) fun hB => ?_
  repeat' (first | (with_reducible first | refine AW.sreg envOk fun K hK => ?_ | refine AW.region envOk fun K hK => ?_ | refine vcL_nil ?_) | (with_reducible (first | refine vcL_cons fun K' hK' => ?_); simp only [isC, Bool.false_or, Bool.or_true, ↓reduceDIte, List.take_length, Nat.le_refl, List.drop_zero, vGuard, undef, Bool.not_eq_eq_eq_not, dstOk, vcOp, vcF, isPure, putS, vcCall, St.ev, St.put, lk, AVal.ofVal, initS, Nat.reduceLT, true_and, and_true, vBin, vPick, vPart, vLoad, AVal.flat, AVal.cell, cellsOk, setRange, ETy.enc, ETy.dec, ETy.sz, ETy.d, cond, Nat.reduceBEq, Nat.reduceAdd, Int.toNat_natCast, List.length_set, List.length_append, List.length_replicate, List.length_take, Nat.reduceSub, Nat.reduceEqDiff, get_loc, setBox_loc, next_eq, List.length_cons, List.length_nil, List.map_cons, List.map_nil, List.append_nil, List.nil_append, List.cons_append, List.set_cons_zero, List.set_cons_succ, getD_zero, getD_succ, List.getElem?_cons_succ, List.getElem?_cons_zero, List.take_succ_cons, List.take_zero, List.drop_succ_cons, List.all_cons, List.all_nil, Bool.and_true, Bool.true_and, Option.bind_some, Option.map_some, Option.map_none, decide_eq_true_eq, decide_eq_false_iff_not, ne_eq, Bool.not_eq_true, Bool.not_eq_false, Decidable.not_not, not_true_eq_false, not_false_eq_true, forall_const, false_implies, Bool.true_eq_false, Bool.false_eq_true, reduceCtorEq, decide_true, decide_false, Bool.not_true, Bool.not_false, if_true, if_false, Nat.zero_add, Nat.lt_irrefl, Value.oneCell', gt_iff_lt, Nat.reduceLeDiff, Nat.lt_add_one, vvar_2, vzero_2, vknd_2, vsn_2, vvar_4, vzero_4, vknd_4, vsn_4]; try simp (disch := omega) only [wrap64]) | (with_reducible refine hK' _ ?_; clear hK' K') | (with_reducible refine hK _ ?_; clear hK K) | (with_reducible first | refine And.intro (And.intro rfl rfl) ?_ | refine And.intro (by omega) ?_) | (with_reducible refine And.intro (fun hg => ?_) (fun hg => ?_) <;> first | simp only [eq_false hg, rsB] | simp only [eq_true hg, rsB] | simp only [hg, rsB]) | (with_reducible first | refine And.intro rfl (And.intro rfl rfl) | refine thenQ_n ?_ | refine thenQ_exit ?_ | refine thenQ_ret ?_ | refine midQ_ret ?_ | refine midQ_exit ?_ | refine blockQ_same ?_ | refine blockQ_ne (by decide) ?_ | refine blockQ_ret ?_ | refine blockQ_n ?_ | refine AW.exit ?_ | refine AW.block ?_ | refine AW.cond_t rfl ?_ | refine AW.cond_f rfl ?_ | refine AW.cond_dec rfl (fun hc => ?_) (fun hc => ?_)) | (with_reducible refine AW.cond rfl (fun hc => ?_) (fun hc => ?_) <;> try simp only [Bool.not_eq_eq_eq_not, Bool.not_true, Bool.not_false, decide_eq_true_eq, decide_eq_false_iff_not] at hc) | (with_reducible first | refine AW.seq ?_ | refine AW.skip ?_ | refine AW.ret ?_ | refine And.intro ?_ ?_) | (with_reducible intro hg; first | simp only [eq_false hg, rsB] | simp only [eq_true hg, rsB]) | (with_reducible refine retQ_drop ?_; simp only [vRes, packRes, vLoad, vPart, lk, cond, Nat.reduceBEq, get_loc, getD_zero, getD_succ, true_and, List.length_cons, List.length_nil, Nat.reduceAdd, Nat.reduceLT, Nat.reduceLeDiff, List.take_succ_cons, List.take_zero, List.drop_succ_cons, List.drop_zero, vvar_2, vzero_2, vknd_2, vsn_2, vvar_4, vzero_4, vknd_4, vsn_4]) )
  all_goals refine ⟨_, _, FinOk.drop hB (Pl.ids (by (repeat' (first | exact Pl.v _ | exact Pl.junk | exact Pl.rd rfl _ | exact pl_nil | refine pl_cons ?_ ?_ | refine Pl.agg ?_ | refine Pl.tup ?_ | refine Pl.rp ?_ | refine Pl.fn ?_)); (first | done | fail))), ?_, rfl⟩
  all_goals refine v_bool ?_
  all_goals grind
end Go.Proofs.YtmkcahfhnehanaaDoor
end

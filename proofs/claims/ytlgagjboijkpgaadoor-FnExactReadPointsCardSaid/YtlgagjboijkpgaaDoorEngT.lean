/- The engine, part T: the closed facts of a row, over a program whose head names many roots. -/
import Derived.Test.YtlgagjboijkpgaaDoorEngS
import Derived.ProofKit
import Derived.JoinedOf
import GoSem.ClaimOpenFrom
set_option linter.unusedSimpArgs false
set_option linter.unusedVariables false
namespace Go.Eng
variable {P : Program}

theorem wordsSigns_word : ∀ (w r : List Char), w.all (fun c => c != Char.ofNat 32) = true → wordsSigns (w ++ Char.ofNat 32 :: r) = w :: wordsSigns r
  | [], r, _ => rfl
  | c :: w, r, h => by
    simp only [List.all_cons, Bool.and_eq_true] at h
    have ih := wordsSigns_word w r h.2
    have hc : c ≠ Char.ofNat 32 := by simpa using h.1
    show wordsSigns (c :: (w ++ Char.ofNat 32 :: r)) = _
    rw [wordsSigns, ih]
    exact fun e => hc e
theorem behind_cut {a b tail : List Char} (h : P.initOrder.toList = a ++ Char.ofNat 32 :: (b ++ Char.ofNat 32 :: ("cut".toList ++ Char.ofNat 32 :: tail))) (ha : a = "harness".toList) (hb : isSumSigns b = true) (hb2 : b.all (fun c => c != Char.ofNat 32) = true) :
    behindMainWord (wordsSigns P.initOrder.toList) = "cut".toList :: wordsSigns tail := by
  rw [h, wordsSigns_word _ _ (by subst ha; decide), wordsSigns_word _ _ hb2, wordsSigns_word _ _ (by decide)]
  subst ha
  unfold behindMainWord
  simp only [hb]
  rfl
theorem strip_cut (rest : List (List Char)) : stripLifts liftWords ("cut".toList :: rest) = ([], "cut".toList :: rest) := by rfl
section
variable {rest : List (List Char)} (h : behindMainWord (wordsSigns P.initOrder.toList) = "cut".toList :: rest)
include h
theorem mayEnter_of (h1 : P.laysLater = false) (h2 : P.bearsReflect = false) (h3 : P.doorFits [] = true) : P.mayEnter = true := by
  unfold Program.mayEnter
  rw [h]
  simp only [strip_cut, h1, h2, h3]
  rfl
theorem headLifts_of : P.headLifts = [] := by
  unfold Program.headLifts
  rw [h]
  simp only [strip_cut]
  rfl
theorem liftsFinal_of : P.liftsFinal = false := by
  unfold Program.liftsFinal
  rw [h, headLifts_of h]
  rfl
theorem make_of : P.make = some .cut := by
  unfold Program.make
  rw [h]
  rfl
end
/-! ### Ways out -/
section
variable {n : Nat} {Q : Exit → St → Prop} {K : St → Prop} {st : St}
theorem thenQ_exit {id : Nat} (h : Q (.exit id) st) : thenQ K Q (.exit id) st := h
theorem thenQ_ret (h : Q .ret st) : thenQ K Q .ret st := h
theorem blockQ_ret {id : Nat} (h : Q .ret st) : blockQ id Q .ret st := h
theorem blockQ_n {id : Nat} (h : Q .normal st) : blockQ id Q .normal st := h
end

/-! ### A list of the call's own, handed over sealed -/
theorem sealL_dead {k : Nat} {e : ETy} {xs : List e.T} : ∀ (L : List ABox), SealL k e xs (L.map fun _ => .dead) L
  | [] => trivial
  | X :: r => ⟨.dead X, sealL_dead r⟩
theorem FinOk.seal {n N : Nat} {sl : List (Nat × AVal)} {b loc : List ABox} {r r' : AVal} (j : Nat) (e : ETy) (xs : List e.T) (hB : BaseLt n b) (hj : j < loc.length) (hX : loc.getD j .dead = .row false e xs)
    (hS : SealV (b.length + j) e xs r' r) (hi : IdsLt n r') : FinOk n ⟨N, sl, b, loc⟩ r r' b := by
  intro c v w hn hv hh
  have hst : RelSt n c ⟨1, [(0, r)], b, loc⟩ { tmps := #[v], defers := [] } w := by
    refine ⟨rfl, rfl, fun t => ?_, hh, hn⟩
    show RelV c (lk [(0, r)] t) _
    rw [lk_put]
    by_cases e : 0 = t
    · subst e; rw [if_pos rfl]; exact hv
    · rw [if_neg e]; exact .junk _
  obtain ⟨c', he, hr⟩ := Weak.seal (sl' := [(0, r')]) j hj hX (by simp [List.getD]; cases loc[j]? <;> rfl) (sealL_dead loc) ⟨hS, trivial⟩ c _ w hst
  obtain ⟨c'', he2, h2, h3⟩ := FinOk.drop (st := ⟨1, [(0, r')], b, loc.map fun _ => .dead⟩) hB hi c' v w hn (hr.slots 0) hr.heap
  exact ⟨c'', he.trans he2, h2, h3⟩
theorem SealV.whole {k : Nat} {e : ETy} {xs : List e.T} {sz m : Nat} (hs : sz = e.sz) (hm : m = xs.length) : SealV k e xs (.rd e xs) (.sl sz k 0 m) := by
  subst hs; subst hm
  have := SealV.sl (k := k) (e := e) (xs := xs) (off := 0) (m := xs.length) (by omega)
  simpa using this

theorem wrap64 {z : Int} (h : -9223372036854775808 ≤ z ∧ z ≤ 9223372036854775807) : IntKind.i64.wrap z = z := by
  simp [IntKind.wrap, IntKind.min, IntKind.max, IntKind.signed, IntKind.bits]; omega
theorem wrap64_succ {i : Nat} (h : i < 9223372036854775807) : IntKind.i64.wrap ((i : Int) + 1) = ((i + 1 : Nat) : Int) := by
  rw [wrap64 (by omega)]; rfl

/-! ### A list that is filled from the left -/
theorem fill_set {α : Type} (xs : List α) (d : α) {i : Nat} (h : i < xs.length) : (xs.take i ++ List.replicate (xs.length - i) d).set i (xs.getD i d) = xs.take (i + 1) ++ List.replicate (xs.length - (i + 1)) d := by
  have e : xs.length - i = (xs.length - (i + 1)) + 1 := by omega
  have hl : (xs.take i).length = i := by simp; omega
  rw [e, List.replicate_succ, List.set_append, if_neg (by omega), hl, Nat.sub_self, List.set_cons_zero, List.take_add_one, List.append_assoc]
  simp [List.getD, h]

end Go.Eng

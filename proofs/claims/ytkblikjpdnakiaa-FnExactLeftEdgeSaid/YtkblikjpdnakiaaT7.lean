/- Texts of this seat that the law stands on, put together. No conditions. -/
import Derived.ProofKit
import Derived.JoinedOf
import GoSem.ClaimOpenFrom
import Derived.Test.YtkblikjpdnakiaaT6
section
set_option linter.unusedSimpArgs false
set_option linter.unusedVariables false
namespace Go.Eng
variable {P : Program}
theorem wordsSigns_word : ∀ (w r : List Char), w.all (fun c => c != Char.ofNat 32) = true → wordsSigns (w ++ Char.ofNat 32 :: r) = w :: wordsSigns r
  | [], r, _ => rfl
  | c :: w, r, h => by
    simp only [List.all_cons, Bool.and_eq_true] at h
    have ih := wordsSigns_word w r h.2
    have hc : c ≠ Char.ofNat 32 := by simpa using h.1
    show wordsSigns (c :: (w ++ Char.ofNat 32 :: r)) = _
    rw [wordsSigns, ih]
    exact fun e => hc e
theorem behind_cut {a b tail : List Char} (h : P.initOrder.toList = a ++ Char.ofNat 32 :: (b ++ Char.ofNat 32 :: ("cut".toList ++ Char.ofNat 32 :: tail))) (ha : a = "harness".toList) (hb : isSumSigns b = true) (hb2 : b.all (fun c => c != Char.ofNat 32) = true) :
    behindMainWord (wordsSigns P.initOrder.toList) = "cut".toList :: wordsSigns tail := by
  rw [h, wordsSigns_word _ _ (by subst ha; decide), wordsSigns_word _ _ hb2, wordsSigns_word _ _ (by decide)]
  subst ha
  unfold behindMainWord
  simp only [hb]
  rfl
theorem strip_cut (rest : List (List Char)) : stripLifts liftWords ("cut".toList :: rest) = ([], "cut".toList :: rest) := by rfl
section
variable {rest : List (List Char)} (h : behindMainWord (wordsSigns P.initOrder.toList) = "cut".toList :: rest)
include h
theorem mayEnter_of (h1 : P.laysLater = false) (h2 : P.bearsReflect = false) (h3 : P.doorFits [] = true) : P.mayEnter = true := by
  unfold Program.mayEnter
  rw [h]
  simp only [strip_cut, h1, h2, h3]
  rfl
theorem headLifts_of : P.headLifts = [] := by
  unfold Program.headLifts
  rw [h]
  simp only [strip_cut]
  rfl
theorem liftsFinal_of : P.liftsFinal = false := by
  unfold Program.liftsFinal
  rw [h, headLifts_of h]
  rfl
theorem make_of : P.make = some .cut := by
  unfold Program.make
  rw [h]
  rfl
end
/-! ### Ways out -/
section
variable {n : Nat} {Q : Exit → St → Prop} {K : St → Prop} {st : St}
theorem thenQ_exit {id : Nat} (h : Q (.exit id) st) : thenQ K Q (.exit id) st := h
theorem thenQ_ret (h : Q .ret st) : thenQ K Q .ret st := h
theorem blockQ_ret {id : Nat} (h : Q .ret st) : blockQ id Q .ret st := h
theorem blockQ_n {id : Nat} (h : Q .normal st) : blockQ id Q .normal st := h
end
/-! ### A list of the call's own, handed over sealed -/
theorem sealL_dead {k : Nat} {e : ETy} {xs : List e.T} : ∀ (L : List ABox), SealL k e xs (L.map fun _ => .dead) L
  | [] => trivial
  | X :: r => ⟨.dead X, sealL_dead r⟩
theorem FinOk.seal {n m N : Nat} {sl : List (Nat × AVal)} {b loc : List ABox} {r r' : AVal} (j : Nat) (e : ETy) (xs : List e.T) (hB : BaseLt m b) (hj : j < loc.length) (hX : loc.getD j .dead = .row false e xs)
    (hS : SealV (b.length + j) e xs r' r) (hi : IdsLt m r') (hm : b.length = m := by rfl) : FinOk n ⟨N, sl, b, loc⟩ r r' b := by
  intro c v w hn hv hh
  subst hm
  have hst : RelN n c ⟨1, [(0, r)], b, loc⟩ { tmps := #[v], defers := [] } w := by
    refine ⟨hn, rfl, rfl, fun t => ?_, hh, rfl⟩
    show RelV c (lk [(0, r)] t) _
    rw [lk_put]
    by_cases e : 0 = t
    · subst e; rw [if_pos rfl]; exact hv
    · rw [if_neg e]; exact .junk _
  obtain ⟨c', he, hr⟩ := Weak.seal (sl' := [(0, r')]) j hj hX (by simp [List.getD]; cases loc[j]? <;> rfl) (sealL_dead loc) ⟨hS, trivial⟩ c _ w hst
  obtain ⟨c'', he2, h2, h3⟩ := FinOk.drop (st := ⟨1, [(0, r')], b, loc.map fun _ => .dead⟩) hB hi rfl c' v w hn (hr.rel.slots 0) hr.rel.heap
  exact ⟨c'', he.trans he2, h2, h3⟩
theorem SealV.whole {k : Nat} {e : ETy} {xs : List e.T} {sz m : Nat} (hs : sz = e.sz) (hm : m = xs.length) : SealV k e xs (.rd e xs) (.sl sz k 0 m) := by
  subst hs; subst hm
  have := SealV.sl (k := k) (e := e) (xs := xs) (off := 0) (m := xs.length) (by omega)
  simpa using this
theorem wrap64 {z : Int} (h : -9223372036854775808 ≤ z ∧ z ≤ 9223372036854775807) : IntKind.i64.wrap z = z := by
  simp [IntKind.wrap, IntKind.min, IntKind.max, IntKind.signed, IntKind.bits]; omega
/-! ### A list that is filled from the left -/
theorem fill_set {α : Type} (xs : List α) (d : α) {i : Nat} (h : i < xs.length) : (xs.take i ++ List.replicate (xs.length - i) d).set i (xs.getD i d) = xs.take (i + 1) ++ List.replicate (xs.length - (i + 1)) d := by
  have e : xs.length - i = (xs.length - (i + 1)) + 1 := by omega
  have hl : (xs.take i).length = i := by simp; omega
  rw [e, List.replicate_succ, List.set_append, if_neg (by omega), hl, Nat.sub_self, List.set_cons_zero, List.take_add_one, List.append_assoc]
  simp [List.getD, h]
end Go.Eng
end
section
set_option linter.unusedSimpArgs false
set_option linter.unusedVariables false
namespace Go.Eng
variable {P : Program} {E : Env}
/-- A call whose result is said outright. -/
def vcC (P : Program) (f : FuncId) (args : List AVal) (st : St) (k : AVal → List ABox → List ABox → Prop) : Prop :=
  ∃ r b l, AC P f args (st.base ++ st.loc) (fun r' H' => r' = r ∧ H' = b ++ l) ∧ b.length = st.base.length ∧ k r b l
def vcF (P : Program) (E : Env) (op : Op) (st : St) (k : AVal → List ABox → List ABox → Prop) : Prop :=
  match op with
  | .call ⟨.value f, args, _⟩ =>
    match st.ev f with
    | .fn g cap => vcC P g (args.toList.map st.ev ++ cap) st k
    | _ => False
  | .next _ _ => False
  | op => vcOp P E op st k
theorem vcF_E {op : Op} {st : St} {k : AVal → List ABox → List ABox → Prop} (h : vcF P E op st k) : vcE P E op st k := by
  cases op with
  | call c =>
    obtain ⟨callee, args, ts⟩ := c
    cases callee <;> exact h
  | _ => exact h
theorem vcC_pure {f : FuncId} {args : List AVal} {N : Nat} {s : List (Nat × AVal)} {b l : List ABox} {x : AVal} {k : AVal → List ABox → List ABox → Prop}
    (h : AC P f args (b ++ l) (fun r H' => r = x ∧ H' = b ++ l)) (hk : k x b l) : vcC P f args ⟨N, s, b, l⟩ k := ⟨x, b, l, h, rfl, hk⟩
def vcD (P : Program) (E : Env) (ops : List Oper) (N : Nat) (b l : List ABox) : List Oper → List (Nat × AVal) → (List (Nat × AVal) → Prop) → Prop
  | [], sl, K => K sl
  | o :: rest, sl, K => dstOk N o.dst ∧ vGuard ops o.guard ⟨N, sl, b, l⟩
      (bif isPure o.op then vcOp P E o.op ⟨N, sl, b, l⟩ (fun r _ _ => vcD P E ops N b l rest (putS sl o.dst r) K)
       else vcF P E o.op ⟨N, sl, b, l⟩ (fun r b' l' => (b' = b ∧ l' = l) ∧ vcD P E ops N b l rest (putS sl o.dst r) K))
      (vcD P E ops N b l rest (putS sl o.dst (.v undef)) K)
theorem vcD_nil {ops : List Oper} {N : Nat} {b l : List ABox} {sl : List (Nat × AVal)} {K : List (Nat × AVal) → Prop} (h : K sl) : vcD P E ops N b l [] sl K := h
theorem vcD_cons {ops : List Oper} {N : Nat} {b l : List ABox} {o : Oper} {rest : List Oper} {sl : List (Nat × AVal)} {K : List (Nat × AVal) → Prop}
    (h : ∀ K' : List (Nat × AVal) → Prop, (∀ sl', vcD P E ops N b l rest sl' K → K' sl') → dstOk N o.dst ∧ vGuard ops o.guard ⟨N, sl, b, l⟩
      (bif isPure o.op then vcOp P E o.op ⟨N, sl, b, l⟩ (fun r _ _ => K' (putS sl o.dst r))
       else vcF P E o.op ⟨N, sl, b, l⟩ (fun r b' l' => (b' = b ∧ l' = l) ∧ K' (putS sl o.dst r)))
      (K' (putS sl o.dst (.v undef)))) : vcD P E ops N b l (o :: rest) sl K := h _ (fun _ h => h)
theorem eff_nil (i : Nat) : effI [] i = false := rfl
theorem cnt_nil : ∀ i, cntE [] i = 0
  | 0 => rfl
  | i + 1 => by simp [cntE, cnt_nil i, eff_nil]
theorem vcD_lex {ops : List Oper} {n : Nat} {st : St} {K : List (Nat × AVal) → Prop} : ∀ (rest : List Oper) (i : Nat) {R : Nat → AVal} {W : Nat → Bool} {Hp : Nat → Heap2} {past : List Heap2} {pend : List (Nat × (Heap2 → Prop))}
    (_ : ∀ k, rest[k]? = ops[i + k]?) (_ : i + rest.length = ops.length) (_ : LexTo P E ops [] n st i R W Hp (st.base, st.loc) past pend) (_ : vcD P E ops st.N st.base st.loc rest (lexSl ops R st.slots i) K),
    ∃ R W Hp, Lex P E ops [] n st R W Hp ∧ K (lexSl ops R st.slots ops.length) ∧ Hp (cntE [] ops.length) = (st.base, st.loc)
  | [], i, R, W, Hp, past, pend, hr, hlen, hL, hv => by
    have hi : i = ops.length := by simpa using hlen
    subst hi
    have lt : ∀ {j : Nat} {o : Oper}, ops[j]? = some o → j < ops.length := fun h => (List.getElem?_eq_some_iff.1 h).1
    exact ⟨R, W, Hp, ⟨hL.h0, hL.hb, fun j o ho => hL.dstN j o (lt ho) ho, fun j o ho => hL.guard j o (lt ho) ho, fun j o ho => hL.skip j o (lt ho) ho, fun j o ho => hL.eff j o (lt ho) ho, fun j o ho => hL.pure j o (lt ho) ho⟩, hv, hL.cur⟩
  | o :: rest, i, R, W, Hp, past, pend, hr, hlen, hL, hv => by
    have ho : ops[i]? = some o := by have := hr 0; simpa using this.symm
    have hr' : ∀ k, rest[k]? = ops[(i + 1) + k]? := fun k => by
      have := hr (k + 1)
      rw [show i + 1 + k = i + (k + 1) by omega, ← this]; simp
    have hlen' : i + 1 + rest.length = ops.length := by simp at hlen; omega
    have next : ∀ (r : AVal), lexSl ops (fun j => if j = i then r else R j) st.slots (i + 1) = putS (lexSl ops R st.slots i) o.dst r := fun r => by
      show (match (ops[i]?).bind (·.dst) with | none => lexSl ops _ st.slots i | some t => (t, if i = i then r else R i) :: lexSl ops _ st.slots i) = _
      rw [lexSl_upd i (Nat.le_refl i), ho, if_pos rfl]
      show (match o.dst with | none => _ | some t => _) = _
      unfold putS
      cases o.dst <;> rfl
    have hn : st.base.length = n := by have := hL.hb _ (Nat.le_refl _); rwa [hL.cur] at this
    unfold vcD at hv
    obtain ⟨hd, hv⟩ := hv
    obtain ⟨w, hg, hrun, hskip⟩ := vGuard_ex hv
    have nf : ∀ {p : Prop}, effI [] i = true → p := fun e => by rw [eff_nil] at e; cases e
    cases w with
    | false =>
      have hs := hskip rfl
      have h2 := hL.step ho (r := .v undef) (w := false) (h' := (st.base, st.loc)) (pend' := pend) hd hg (fun _ => ⟨rfl, rfl⟩) (fun e => (by cases e)) (fun _ => rfl) (fun e => (by cases e)) hn nf (fun _ h => h)
      exact vcD_lex rest (i + 1) hr' hlen' h2 (by rw [next]; exact hs)
    | true =>
      have hs := hrun rfl
      cases hip : isPure o.op with
      | true =>
        rw [hip] at hs
        have hs' : vcOp P E o.op ⟨st.N, lexSl ops R st.slots i, st.base, st.loc⟩ (fun r _ _ => vcD P E ops st.N st.base st.loc rest (putS (lexSl ops R st.slots i) o.dst r) K) := hs
        obtain ⟨r, hk, hall⟩ := vcOp_pure hip hs'
        have h2 := hL.step ho (r := r) (w := true) (h' := (st.base, st.loc)) (pend' := pend) hd hg (fun e => (by cases e)) (fun _ => nf) (fun _ => rfl) (fun _ _ => ⟨fun m _ _ => hall (Hp m), .inl hall⟩) hn nf (fun _ h => h)
        exact vcD_lex rest (i + 1) hr' hlen' h2 (by rw [next]; exact hk)
      | false =>
        rw [hip] at hs
        obtain ⟨r, b, l, ⟨⟨hb, hl⟩, hk⟩, hok⟩ := vcE_ex (vcF_E hs)
        subst hb; subst hl
        have h2 := hL.step ho (r := r) (w := true) (h' := (st.base, st.loc)) (pend' := (hiI [] i, fun h' => OpOK P E o.op ⟨st.N, lexSl ops R st.slots i, h'.1, h'.2⟩ r h') :: pend) hd hg (fun e => (by cases e)) (fun _ => nf) (fun _ => rfl)
          (fun _ _ => ⟨fun m hlo hm => by
            rw [cnt_nil] at hm
            have : m = cntE [] i := by rw [cnt_nil]; omega
            subst this; rw [hL.cur]; exact hok, .inr (.inl ⟨_, List.mem_cons_self, fun _ h => h⟩)⟩) hn nf (fun _ h => List.mem_cons_of_mem _ h)
        exact vcD_lex rest (i + 1) hr' hlen' h2 (by rw [next]; exact hk)
section
variable {n : Nat} {Q : Exit → St → Prop} {st : St}
/-- A REGION THAT DRAWS ITS ORDER and leaves the boxes as they are. -/
theorem AW.d0 (hE : EnvOk P E) (hm : P.follows .mixedOrders = true) (hn : st.base.length = st.base.length) {id : Nat} {l : List Oper} (hchk : drawChk l [] = true)
    (h : ∀ K : List (Nat × AVal) → Prop, (∀ sl, Q .normal ⟨st.N, sl, st.base, st.loc⟩ → K sl) → vcD P E l st.N st.base st.loc l st.slots K) : AW P n (.region id l.toArray true) Q st := by
  intro c a w hst
  have h0 := h _ (fun _ h => h)
  have hL0 : LexTo P E l [] st.base.length st 0 (fun _ => .junk) (fun _ => false) (fun _ => (st.base, st.loc)) (st.base, st.loc) [] [] :=
    ⟨rfl, rfl, rfl, fun q h => (by simp [cntE] at h), fun _ _ => rfl, fun j _ h => absurd h (by omega), fun j _ h => absurd h (by omega), fun j _ h => absurd h (by omega), fun j _ h => absurd h (by omega), fun j _ h => absurd h (by omega), fun j _ h => absurd h (by omega)⟩
  obtain ⟨R, W, Hp, hL, hK, hH⟩ := vcD_lex l 0 (fun k => by rw [Nat.zero_add]) (by simp) hL0 h0
  refine wp_region_any hm ?_
  have hD := drawChk_ok hchk
  have hI : DInv l [] c st R Hp (Array.replicate l.toArray.size false) a { w with drawn := w.drawn + 1 } := by
    have hf : ∀ i, (Array.replicate l.toArray.size false).getD i false = false := fun i => by
      simp only [Array.getD, Array.size_replicate]
      split <;> simp
    refine ⟨by simp, fun i o j _ hl => (by rw [hf] at hl; cases hl), c, 0, .refl c, fun i _ _ => (by rw [hf]; simp), Nat.zero_le _, hst.rel.defers, hst.rel.size, ?_, fun t => ?_⟩
    · rw [hL.h0]; exact hst.rel.heap.drew
    · have := hst.rel.slots t
      cases hw : writer l t with
      | none => exact this
      | some j => simp only [hf, Bool.false_eq_true, if_false]; exact this
  refine dinv_any hE hD hL (fun c' a' w' he hr => ⟨c', _, he.toB n, .of hst.le hr, ?_⟩) _ _ _ _ hI (by simp)
  rw [hH]; exact hK
theorem AW.d0reg (hE : EnvOk P E) (hm : P.follows .mixedOrders = true) (hn : st.base.length = st.base.length) {id : Nat} {l : List Oper} {y : Code} (hchk : drawChk l [] = true)
    (h : ∀ K : List (Nat × AVal) → Prop, (∀ sl, AW P n y Q ⟨st.N, sl, st.base, st.loc⟩ → K sl) → vcD P E l st.N st.base st.loc l st.slots K) : AW P n (.seq (.region id l.toArray true) y) Q st :=
  AW.seq (AW.d0 hE hm hn hchk h)
end
end Go.Eng
end
section
set_option linter.unusedSimpArgs false
set_option linter.unusedVariables false
namespace Go.Eng
variable {P : Program} {E : Env}
theorem vcDr_nil {ops : List Oper} {info : List (Bool × Nat × Nat)} {n N i : Nat} {sl : List (Nat × AVal)} {h : Heap2} {past : List Heap2} {pend : List (Nat × (Heap2 → Prop))} {K : List (Nat × AVal) → Heap2 → Prop}
    (hk : K sl h) : vcDr P E ops info n N i [] sl h past pend K := hk
theorem vGuard_mono {ops : List Oper} {g : Option (Nat × Bool)} {st : St} {p p' q : Prop} (hp : p → p') (hg : vGuard ops g st p q) : vGuard ops g st p' q := by
  cases g with
  | none => exact hp hg
  | some jw =>
    obtain ⟨j, want⟩ := jw
    simp only [vGuard] at hg ⊢
    cases ht : (ops[j]?).bind (·.dst) with
    | none => rw [ht] at hg; exact hg
    | some t =>
      rw [ht] at hg
      refine ⟨hg.1, ?_⟩
      have h2 := hg.2
      revert h2
      generalize lk st.slots t = v
      intro h2
      cases v with
      | v x => cases x <;> first | exact ⟨fun e => hp (h2.1 e), h2.2⟩ | exact h2
      | _ => exact h2
theorem vcDr_cons {ops : List Oper} {info : List (Bool × Nat × Nat)} {n N i : Nat} {o : Oper} {rest : List Oper} {sl : List (Nat × AVal)} {b l : List ABox} {past : List Heap2} {pend : List (Nat × (Heap2 → Prop))} {K : List (Nat × AVal) → Heap2 → Prop}
    (h : ∀ K' : List (Nat × AVal) → List ABox → List ABox → List Heap2 → List (Nat × (Heap2 → Prop)) → Prop, (∀ sl' b' l' past' pend', vcDr P E ops info n N (i + 1) rest sl' (b', l') past' pend' K → K' sl' b' l' past' pend') →
      dstOk N o.dst ∧ vGuard ops o.guard ⟨N, sl, b, l⟩
      (bif isPure o.op then effI info i = false ∧ vcOp P E o.op ⟨N, sl, b, l⟩ (fun r _ _ => K' (putS sl o.dst r) b l past pend)
       else bif effI info i then vcF P E o.op ⟨N, sl, b, l⟩ (fun r b' l' => b'.length = n ∧ pendOk pend (past.length + 1) (b', l') ∧ K' (putS sl o.dst r) b' l' ((b, l) :: past) pend)
       else vcF P E o.op ⟨N, sl, b, l⟩ (fun r b' l' => (b' = b ∧ l' = l) ∧ pastOk past (loI info i) (fun h' => OpOK P E o.op ⟨N, sl, h'.1, h'.2⟩ r h') ∧
          K' (putS sl o.dst r) b l past (if hiI info i ≤ past.length then pend else (hiI info i, fun h' => OpOK P E o.op ⟨N, sl, h'.1, h'.2⟩ r h') :: pend)))
      (bif effI info i then pendOk pend (past.length + 1) (b, l) ∧ K' (putS sl o.dst (.v undef)) b l ((b, l) :: past) pend
       else K' (putS sl o.dst (.v undef)) b l past pend)) : vcDr P E ops info n N i (o :: rest) sl (b, l) past pend K := by
  have h0 := h (fun sl' b' l' past' pend' => vcDr P E ops info n N (i + 1) rest sl' (b', l') past' pend' K) (fun _ _ _ _ _ h => h)
  unfold vcDr
  refine ⟨h0.1, ?_⟩
  refine vGuard_mono ?_ h0.2
  intro h1
  cases hp : isPure o.op with
  | true => rw [hp] at h1; exact h1
  | false =>
    rw [hp] at h1
    cases he : effI info i with
    | true => rw [he] at h1; exact vcF_E h1
    | false => rw [he] at h1; exact vcF_E h1
end Go.Eng
end
section
set_option linter.unusedSimpArgs false
set_option linter.unusedVariables false
namespace Go.Eng
variable {P : Program} {E : Env}
def ETy.plain : ETy → Bool
  | .own _ | .mix _ => false
  | _ => true
/-- No numbers in it. -/
inductive Pl : AVal → Prop where
  | v (x : Value) : Pl (.v x)
  | junk : Pl .junk
  | rd {e : ETy} (h : e.plain = true) (xs : List e.T) : Pl (.rd e xs)
  | agg {cs : List AVal} (h : ∀ x ∈ cs, Pl x) : Pl (.agg cs)
  | tup {cs : List AVal} (h : ∀ x ∈ cs, Pl x) : Pl (.tup cs)
  | rp {cs : List AVal} {j : Nat} (h : ∀ x ∈ cs, Pl x) : Pl (.rp cs j)
  | fn {f : FuncId} {cs : List AVal} (h : ∀ x ∈ cs, Pl x) : Pl (.fn f cs)
theorem pl_nil : ∀ x ∈ ([] : List AVal), Pl x := fun x h => by simp at h
theorem pl_cons {a : AVal} {l : List AVal} (h : Pl a) (k : ∀ x ∈ l, Pl x) : ∀ x ∈ a :: l, Pl x := fun x hx => by
  rcases List.mem_cons.1 hx with rfl | hx
  · exact h
  · exact k x hx
theorem ETy.enc_ids {n : Nat} : ∀ (e : ETy) (h : e.plain = true) (x : e.T) (j : Nat), j < e.sz → IdsLt n ((e.enc x).getD j .junk)
  | .int k, _, x, j, hj => by
    have : j = 0 := by simpa [ETy.sz] using hj
    subst this; exact .v _
  | .bool, _, x, j, hj => by
    have : j = 0 := by simpa [ETy.sz] using hj
    subst this; exact .v _
  | .str, _, x, j, hj => by
    have : j = 0 := by simpa [ETy.sz] using hj
    subst this; exact .v _
  | .pt, _, x, j, hj => by
    have hj' : j < 2 := hj
    match j, hj' with
    | 0, _ => exact .v _
    | 1, _ => exact .v _
  | .sli k, _, x, j, hj => by
    have : j = 0 := by simpa [ETy.sz] using hj
    subst this
    exact .rd (fun i j hi hj => by
      have : j = 0 := by simpa [ETy.sz] using hj
      subst this; exact .v _)
  | .slb, _, x, j, hj => by
    have : j = 0 := by simpa [ETy.sz] using hj
    subst this
    exact .rd (fun i j hi hj => by
      have : j = 0 := by simpa [ETy.sz] using hj
      subst this; exact .v _)
  | .own _, h, _, _, _ => by cases h
  | .mix _, h, _, _, _ => by cases h
  | .st, _, x, j, hj => by
    have hj' : j < 3 := hj
    match j, hj' with
    | 0, _ => exact .v _
    | 1, _ => exact .v _
    | 2, _ => exact .v _
theorem Pl.ids {n : Nat} {a : AVal} (h : Pl a) : IdsLt n a := by
  have get : ∀ {cs : List AVal} {i : Nat}, i < cs.length → cs.getD i .junk ∈ cs := fun {cs i} hi => by
    simp only [List.getD, List.getElem?_eq_getElem hi, Option.getD_some]
    exact List.getElem_mem hi
  induction h with
  | v x => exact .v x
  | junk => exact .junk
  | rd h xs => exact .rd (fun i j hi hj => ETy.enc_ids _ h _ j hj)
  | agg h ih => exact .agg (fun i hi => ih _ (get hi))
  | tup h ih => exact .tup (fun i hi => ih _ (get hi))
  | rp h ih => exact .rp (fun i hi => ih _ (get hi))
  | fn h ih => exact .fn (fun i hi => ih _ (get hi))
theorem RenV.pl {n : Nat} {idx : List Nat} {a : AVal} (h : Pl a) : RenV n idx a a := .low h.ids
theorem RenB.plBox {n : Nat} {idx : List Nat} {ro : Bool} {cs : List AVal} (h : ∀ x ∈ cs, Pl x) : RenB n idx (.box ro cs) (.box ro cs) := .low (fun i hi => by
  have : cs.getD i .junk ∈ cs := by
    simp only [List.getD, List.getElem?_eq_getElem hi, Option.getD_some]
    exact List.getElem_mem hi
  exact (h _ this).ids)
theorem RenB.plRow {n : Nat} {idx : List Nat} {ro : Bool} {e : ETy} (h : e.plain = true) {xs : List e.T} : RenB n idx (.row ro e xs) (.row ro e xs) := .low (fun i j hi hj => ETy.enc_ids e h _ j hj)
/-- A call that writes boxes: what it returns is said outright. -/
theorem vCall_to {f : FuncId} {args : List AVal} {N : Nat} {s : List (Nat × AVal)} {b l l' : List ABox} {x : AVal} {k : AVal → List ABox → List ABox → Prop}
    (h : AC P f args (b ++ l) (fun r H' => r = x ∧ H' = b ++ l')) (hk : k x b l') : vCall P (.fn f []) args ⟨N, s, b, l⟩ k := by
  show AC P f (args ++ []) (b ++ l) _
  rw [List.append_nil]
  exact h.mono fun r H' ⟨e1, e2⟩ => ⟨b, l', e2, rfl, e1 ▸ hk⟩
theorem v_bool {b : Bool} {p : Prop} [Decidable p] (h : b = true ↔ p) : AVal.v (.bool b) = AVal.v (.bool (decide p)) := by
  congr 2
  cases b <;> simp_all
end Go.Eng
end
section
set_option linter.unusedSimpArgs false
set_option linter.unusedVariables false
namespace Go.Eng
variable {P : Program} {E : Env}
/-! ### Values that lean on no sealed block -/
inductive NoRd : AVal → Prop where
  | v (x : Value) : NoRd (.v x)
  | junk : NoRd .junk
  | ptr {sz k i j : Nat} : NoRd (.ptr sz k i j)
  | sl {sz k off n : Nat} : NoRd (.sl sz k off n)
  | mp {k : Nat} : NoRd (.mp k)
  | agg {cs : List AVal} (h : ∀ x ∈ cs, NoRd x) : NoRd (.agg cs)
  | tup {cs : List AVal} (h : ∀ x ∈ cs, NoRd x) : NoRd (.tup cs)
  | fn {f : FuncId} {cs : List AVal} (h : ∀ x ∈ cs, NoRd x) : NoRd (.fn f cs)
theorem nord_nil : ∀ x ∈ ([] : List AVal), NoRd x := fun x h => by simp at h
theorem nord_cons {a : AVal} {l : List AVal} (h : NoRd a) (k : ∀ x ∈ l, NoRd x) : ∀ x ∈ a :: l, NoRd x := fun x hx => by
  rcases List.mem_cons.1 hx with rfl | hx
  · exact h
  · exact k x hx
theorem getD_mem {cs : List AVal} {i : Nat} (hi : i < cs.length) : cs.getD i .junk ∈ cs := by
  simp only [List.getD, List.getElem?_eq_getElem hi, Option.getD_some]
  exact List.getElem_mem hi
theorem NoRd.move {a : AVal} (h : NoRd a) {c c' : Ctx} (hl : c'.loc = c.loc) : ∀ {u : Value}, RelV c a u → RelV c' a u := by
  induction h with
  | v x => intro u hu; cases hu; exact .v _
  | junk => intro u hu; exact .junk _
  | ptr => intro u hu; cases hu with | ptr h => exact .ptr (by rw [hl]; exact h)
  | sl => intro u hu; cases hu with | sl h h1 h2 => exact .sl (by rw [hl]; exact h) h1 h2
  | mp => intro u hu; cases hu with | mp h => exact .mp (by rw [hl]; exact h)
  | agg h ih => intro u hu; cases hu with | agg h1 h2 => exact .agg h1 (fun i hi => ih _ (getD_mem hi) (h2 i hi))
  | tup h ih => intro u hu; cases hu with | tup h1 h2 => exact .tup h1 (fun i hi => ih _ (getD_mem hi) (h2 i hi))
  | fn h ih => intro u hu; cases hu with | fn h1 h2 => exact .fn h1 (fun i hi => ih _ (getD_mem hi) (h2 i hi))
def ETy.noRd : ETy → Bool
  | .sli _ | .slb | .mix _ => false
  | _ => true
theorem ETy.enc_noRd : ∀ (e : ETy), e.noRd = true → ∀ (x : e.T) (j : Nat), j < e.sz → NoRd ((e.enc x).getD j .junk)
  | .int k, _, x, j, hj => by
    have : j = 0 := by simpa [ETy.sz] using hj
    subst this; exact .v _
  | .bool, _, x, j, hj => by
    have : j = 0 := by simpa [ETy.sz] using hj
    subst this; exact .v _
  | .str, _, x, j, hj => by
    have : j = 0 := by simpa [ETy.sz] using hj
    subst this; exact .v _
  | .pt, _, x, j, hj => by
    have hj' : j < 2 := hj
    match j, hj' with
    | 0, _ => exact .v _
    | 1, _ => exact .v _
  | .own _, _, x, j, hj => by
    have : j = 0 := by simpa [ETy.sz] using hj
    subst this
    rcases (x : Option (Nat × Nat)) with _ | p
    · exact .v _
    · exact .sl
  | .mix _, h, _, _, _ => by cases h
  | .st, _, x, j, hj => by
    have hj' : j < 3 := hj
    match j, hj' with
    | 0, _ => exact .v _
    | 1, _ => exact .v _
    | 2, _ => exact .v _
  | .sli _, h, _, _, _ => by cases h
  | .slb, h, _, _, _ => by cases h
/-- A box whose content leans on no sealed block. -/
def NoRdB : ABox → Prop
  | .dead => True
  | .box _ cs => ∀ x ∈ cs, NoRd x
  | .row _ e _ => e.noRd = true
  | .map _ _ => True
  | .iter _ _ _ => True
  | .tab _ _ => True
/-- And it is written by its owner. -/
def NoRdW : ABox → Prop
  | .dead => True
  | .box ro cs => ro = false ∧ ∀ x ∈ cs, NoRd x
  | .row ro e _ => ro = false ∧ e.noRd = true
  | .map _ _ => True
  | .iter _ _ _ => True
  | .tab _ _ => False
theorem NoRdW.b : ∀ {X : ABox}, NoRdW X → NoRdB X
  | .dead, _ => trivial
  | .box _ _, h => h.2
  | .row _ _ _, h => h.2
  | .map _ _, h => h
  | .iter _ _ _, h => h
  | .tab _ _, h => h.elim
def NoRdH (H : List ABox) : Prop := ∀ X ∈ H, NoRdB X
theorem NoRdH.append {a b : List ABox} (h : NoRdH a) (k : NoRdH b) : NoRdH (a ++ b) := fun X hX => by
  rcases List.mem_append.1 hX with hX | hX
  · exact h X hX
  · exact k X hX
theorem RelB.move {c c' : Ctx} {w : World} {l : Loc} {X : ABox} (hX : NoRdB X) (hl : c'.loc = c.loc) (hs : X.live = true → c'.sealed l.blk = c.sealed l.blk) (h : RelB c w l X) : RelB c' w l X := by
  cases X with
  | dead => trivial
  | box ro cs =>
    obtain ⟨cells, T, h1, h2, h3⟩ := h
    refine ⟨cells, T, h1, ?_, fun j hj => ?_⟩
    · unfold modeOk at *; rw [hs rfl]; exact h2
    · obtain ⟨u, hu, hr⟩ := h3 j hj; exact ⟨u, hu, (hX _ (getD_mem hj)).move hl hr⟩
  | row ro e xs =>
    obtain ⟨cells, T, h1, h2, h3, h4, h5⟩ := h
    refine ⟨cells, T, h1, ?_, h3, h4, fun i j hi hj => ?_⟩
    · unfold modeOk at *; rw [hs rfl]; exact h2
    · obtain ⟨u, hu, hr⟩ := h5 i j hi hj; exact ⟨u, hu, (ETy.enc_noRd e hX _ j hj).move hl hr⟩
  | map kk es => exact ⟨h.1, (hs rfl).trans h.2⟩
  | iter m since seen =>
    obtain ⟨⟨lm, h1, h2⟩, h3⟩ := h
    exact ⟨⟨lm, by rw [hl]; exact h1, h2⟩, (hs rfl).trans h3⟩
  | tab g o => exact ⟨h.1, (hs rfl).trans h.2.1, h.2.2⟩
/-! ### Lists of the call's own, lent -/
/-- A list of one's own. -/
def ABox.lent : ABox → Bool
  | .row false _ _ => true
  | _ => false
inductive LendV (H : List ABox) : AVal → AVal → Prop where
  | same (a : AVal) : LendV H a a
  | sl {e : ETy} {xs : List e.T} {k off m : Nat} (h : H[k]? = some (.row false e xs)) (hm : off + m ≤ xs.length) : LendV H (.sl e.sz k off m) (.rd e ((xs.drop off).take m))
  | agg {cs cs' : List AVal} (hl : cs'.length = cs.length) (h : ∀ i, i < cs.length → LendV H (cs.getD i .junk) (cs'.getD i .junk)) : LendV H (.agg cs) (.agg cs')
  | nil (e : ETy) : LendV H (.v (.slice none 0 0)) (.rd e [])
theorem LendV.whole {H : List ABox} {e : ETy} {xs : List e.T} {sz k m : Nat} (hs : sz = e.sz) (h : H[k]? = some (.row false e xs)) (hm : m = xs.length) : LendV H (.sl sz k 0 m) (.rd e xs) := by
  subst hs; subst hm
  have := LendV.sl (H := H) (e := e) (xs := xs) (k := k) (off := 0) (m := xs.length) h (by omega)
  simpa using this
def LendL (H : List ABox) : List AVal → List AVal → Prop
  | [], [] => True
  | a :: r, a' :: r' => LendV H a a' ∧ LendL H r r'
  | _, _ => False
theorem LendL.spec {H : List ABox} : ∀ {l l' : List AVal}, LendL H l l' → l'.length = l.length ∧ ∀ i, i < l.length → LendV H (l.getD i .junk) (l'.getD i .junk)
  | [], [], _ => ⟨rfl, fun i h => by simp at h⟩
  | [], _ :: _, h => h.elim
  | _ :: _, [], h => h.elim
  | a :: r, a' :: r', h => by
    obtain ⟨g1, g2⟩ := LendL.spec h.2
    refine ⟨by simp [g1], fun i hi => ?_⟩
    cases i with
    | zero => exact h.1
    | succ i => exact g2 i (by simpa using hi)
end Go.Eng
end
section
set_option linter.unusedSimpArgs false
set_option linter.unusedVariables false
namespace Go.Eng
variable {P : Program} {E : Env}
theorem app_get {b l : List ABox} {j : Nat} : (b ++ l)[b.length + j]? = l[j]? := by
  rw [List.getElem?_append_right (by omega), Nat.add_sub_cancel_left]
theorem LendV.loc {b l : List ABox} {e : ETy} {xs : List e.T} {sz j m : Nat} (hs : sz = e.sz) (h : l[j]? = some (.row false e xs)) (hm : m = xs.length) : LendV (b ++ l) (.sl sz (b.length + j) 0 m) (.rd e xs) :=
  LendV.whole hs (app_get.trans h) hm
theorem LendV.part {b l : List ABox} {e : ETy} {xs : List e.T} {sz j off m : Nat} (hs : sz = e.sz) (h : l[j]? = some (.row false e xs)) (hm : off + m ≤ xs.length) : LendV (b ++ l) (.sl sz (b.length + j) off m) (.rd e ((xs.drop off).take m)) := by
  subst hs; exact .sl (app_get.trans h) hm
theorem nordW_nil : ∀ Z ∈ ([] : List ABox), NoRdW Z := fun Z h => by simp at h
theorem nordW_cons {X : ABox} {l : List ABox} (h : NoRdW X) (k : ∀ Z ∈ l, NoRdW Z) : ∀ Z ∈ X :: l, NoRdW Z := fun Y hY => by
  rcases List.mem_cons.1 hY with rfl | hY
  · exact h
  · exact k Y hY
/-- A call that leaves new boxes; what it returns is said anew. -/
theorem vCall_newE {f : FuncId} {args : List AVal} {N : Nat} {s : List (Nat × AVal)} {b l new : List ABox} {x x' : AVal} {k : AVal → List ABox → List ABox → Prop}
    (h : AC P f args (b ++ l) (fun r H' => r = x ∧ H' = (b ++ l) ++ new)) (hx : x = x') (hk : k x' b (l ++ new)) : vCall P (.fn f []) args ⟨N, s, b, l⟩ k := by
  subst hx; exact vCall_new h hk
/-! ### A callee over its caller's boxes: b is below, l0 are the caller's -/
theorem get_bl {N : Nat} {s : List (Nat × AVal)} {b l0 l : List ABox} {j : Nat} : St.get ⟨N, s, b ++ l0, l⟩ (b.length + j) = (l0 ++ l).getD j .dead := by
  simp only [St.get, List.getD]
  rw [List.append_assoc, List.getElem?_append_right (by omega), Nat.add_sub_cancel_left]
theorem setBox_bl {N : Nat} {s : List (Nat × AVal)} {b l0 l : List ABox} {j : Nat} {X : ABox} {K : List ABox → List ABox → Prop} :
    St.setBox ⟨N, s, b ++ l0, l⟩ (b.length + j) X K = if j < l0.length then K (b ++ l0.set j X) l else K (b ++ l0) (l.set (j - l0.length) X) := by
  simp only [St.setBox, List.length_append]
  by_cases h : j < l0.length
  · rw [if_pos (by omega), if_pos h]
    congr 1
    rw [List.set_append, if_neg (by omega), Nat.add_sub_cancel_left]
  · rw [if_neg (by omega), if_neg h]
    congr 2; omega
theorem next_bl {N : Nat} {s : List (Nat × AVal)} {b l0 l : List ABox} : St.next ⟨N, s, b ++ l0, l⟩ = b.length + (l0.length + l.length) := by
  simp only [St.next, List.length_append]; omega
/-- The callee's boxes are handed over: the caller's keep their places, of the callee's own those that are chosen. -/
theorem FinOk.sel {N : Nat} {sl : List (Nat × AVal)} {b l0 l L' : List ABox} {r r' : AVal} {m : Nat} (idx : List Nat) (hB : BaseLt b.length b) (hm : m = (b ++ l0).length) (hnd : idx.Nodup) (hpre : ∀ j, j < l0.length → idx[j]? = some j)
    (hL : RenL b.length idx (l0 ++ l) L' idx) (hr : RenV b.length idx r' r) : FinOk m ⟨N, sl, b ++ l0, l⟩ r r' (b ++ L') := by
  subst hm
  intro c v w hn hv hh
  have hh2 : RelH c (b ++ (l0 ++ l)) w := by rw [← List.append_assoc]; exact hh
  refine ⟨c.sel b.length idx, ⟨⟨rfl, rfl, rfl, fun _ _ h => h⟩, fun k lo hk hlo => ?_⟩, hv.ren hr, hh2.sel hB rfl hL hnd⟩
  rcases Nat.lt_or_ge k b.length with h1 | h1
  · rw [Ctx.sel_low h1]; exact hlo
  · have h2 : k - b.length < l0.length := by simp at hk; omega
    have := Ctx.sel_loc (c := c) (n := b.length) (hpre _ h2)
    rw [show b.length + (k - b.length) = k by omega] at this
    rw [this]; exact hlo
end Go.Eng
end
section
set_option linter.unusedSimpArgs false
set_option linter.unusedVariables false
namespace Go.Eng
variable {P : Program} {E : Env} {n : Nat} {Q : Exit → St → Prop} {st : St}
def midQ (n : Nat) (S : St) (Q : Exit → St → Prop) : Exit → St → Prop
  | .normal, st => Weak n st S
  | e, st => Q e st
theorem midQ_exit {id : Nat} {S st : St} (h : Q (.exit id) st) : midQ n S Q (.exit id) st := h
theorem midQ_ret {S st : St} (h : Q .ret st) : midQ n S Q .ret st := h
/-- Values of two lists, one by one. -/
def RenVL (n : Nat) (idx : List Nat) : List AVal → List AVal → Prop
  | [], [] => True
  | a :: r, b :: s => RenV n idx a b ∧ RenVL n idx r s
  | _, _ => False
theorem RenVL.spec {n : Nat} {idx : List Nat} : ∀ {l' l : List AVal}, RenVL n idx l' l → l'.length = l.length ∧ ∀ i, i < l.length → RenV n idx (l'.getD i .junk) (l.getD i .junk)
  | [], [], _ => ⟨rfl, fun i h => by simp at h⟩
  | [], _ :: _, h => h.elim
  | _ :: _, [], h => h.elim
  | a :: r, b :: s, h => by
    obtain ⟨g1, g2⟩ := RenVL.spec h.2
    refine ⟨by simp [g1], fun i hi => ?_⟩
    cases i with
    | zero => exact h.1
    | succ i => exact g2 i (by simpa using hi)
theorem RenB.of {n : Nat} {idx : List Nat} {ro : Bool} {cs' cs : List AVal} (h : RenVL n idx cs' cs) : RenB n idx (.box ro cs') (.box ro cs) := .box h.spec.1 h.spec.2
theorem RenV.fnL {n : Nat} {idx : List Nat} {f : FuncId} {cs' cs : List AVal} (h : RenVL n idx cs' cs) : RenV n idx (.fn f cs') (.fn f cs) := .fn h.spec.1 h.spec.2
theorem RenV.aggL {n : Nat} {idx : List Nat} {cs' cs : List AVal} (h : RenVL n idx cs' cs) : RenV n idx (.agg cs') (.agg cs) := .agg h.spec.1 h.spec.2
theorem RenV.tupL {n : Nat} {idx : List Nat} {cs' cs : List AVal} (h : RenVL n idx cs' cs) : RenV n idx (.tup cs') (.tup cs) := .tup h.spec.1 h.spec.2
/-! ### A callee that writes one of its caller's lists -/
theorem get_set {l l' : List ABox} {j : Nat} {X : ABox} (h : j < l.length) : ((l.set j X) ++ l').getD j .dead = X := by
  simp only [List.getD]
  rw [List.getElem?_append_left (by simpa using h)]
  simp [h]
theorem set_same {l : List ABox} {j : Nat} {X : ABox} (h : l[j]? = some X) : l.set j X = l := by
  obtain ⟨h1, h2⟩ := List.getElem?_eq_some_iff.1 h
  rw [← h2]; exact List.set_getElem_self h1
theorem set_again {l : List ABox} {j : Nat} {X Y : ABox} : (l.set j X).set j Y = l.set j Y := List.set_set ..
theorem FinOk.base {N : Nat} {sl : List (Nat × AVal)} {b : List ABox} {r : AVal} {m : Nat} : FinOk m ⟨N, sl, b, []⟩ r r b := fun c v w hn hv hh => ⟨c, .refl _ c, hv, by simpa using hh⟩
/-- A call of which something is known. -/
theorem vCall_ex {ι : Type} {Φ : ι → Prop} {F : ι → AVal} {L : ι → List ABox} {f : FuncId} {args : List AVal} {N : Nat} {s : List (Nat × AVal)} {b l : List ABox} {k : AVal → List ABox → List ABox → Prop}
    (h : AC P f args (b ++ l) (fun r H' => ∃ x, Φ x ∧ r = F x ∧ H' = b ++ L x)) (hk : ∀ x, Φ x → k (F x) b (L x)) : vCall P (.fn f []) args ⟨N, s, b, l⟩ k := by
  show AC P f (args ++ []) (b ++ l) _
  rw [List.append_nil]
  exact h.mono fun r H' ⟨x, h1, h2, h3⟩ => ⟨b, L x, h3, rfl, h2 ▸ hk x h1⟩
theorem get_set0 {l : List ABox} {j : Nat} {X : ABox} (h : j < l.length) : (l.set j X).getD j .dead = X := by simp [List.getD, h]
theorem base_len {H l : List ABox} {j : Nat} {X Y : ABox} : (H ++ l.set j X).length = (H ++ l.set j Y).length := by simp
theorem base_len0 {H l : List ABox} {j : Nat} {X : ABox} : (H ++ l.set j X).length = (H ++ l).length := by simp
theorem vCall_exB {ι : Type} {Φ : ι → Prop} {F : ι → AVal} {L : ι → List ABox} {f : FuncId} {args : List AVal} {N : Nat} {s : List (Nat × AVal)} {b l : List ABox} {k : AVal → List ABox → List ABox → Prop}
    (h : AC P f args (b ++ l) (fun r H' => ∃ x, Φ x ∧ r = F x ∧ H' = b ++ L x)) (hL : ∀ x, (L x).length = l.length) (hk : ∀ x, Φ x → k (F x) (b ++ L x) []) : vCall P (.fn f []) args ⟨N, s, b ++ l, []⟩ k := by
  show AC P f (args ++ []) ((b ++ l) ++ []) _
  rw [List.append_nil, List.append_nil]
  exact h.mono fun r H' ⟨x, h1, h2, h3⟩ => ⟨b ++ L x, [], by rw [h3, List.append_nil], by simp [hL x], h2 ▸ hk x h1⟩
end Go.Eng
end
section
set_option linter.unusedSimpArgs false
set_option linter.unusedVariables false
namespace Go.Eng
variable {P : Program} {E : Env}
def killAll (H : List ABox) : List ABox := H.map fun _ => .dead
theorem killAll_length (H : List ABox) : (killAll H).length = H.length := by simp [killAll]
theorem killAll_get {H : List ABox} {k : Nat} {Z : ABox} (h : (killAll H)[k]? = some Z) : Z.live = false := by
  unfold killAll at h
  rw [List.getElem?_map, Option.map_eq_some_iff] at h
  obtain ⟨Y, hY, he⟩ := h
  subst he; rfl
/-- What is lent, as the callee sees it. -/
inductive LentV (H : List ABox) : AVal → AVal → Prop where
  | same (a : AVal) : LentV H a a
  | sl {ro : Bool} {e : ETy} {xs : List e.T} {k off m : Nat} (h : H[k]? = some (.row ro e xs)) (hm : off + m ≤ xs.length) : LentV H (.sl e.sz k off m) (.rd e ((xs.drop off).take m))
  | box {ro : Bool} {cs cs' : List AVal} {sz k j : Nat} (h : H[k]? = some (.box ro cs)) (hl : cs'.length = cs.length) (hc : ∀ i, i < cs.length → LentV H (cs.getD i .junk) (cs'.getD i .junk)) : LentV H (.ptr sz k 0 j) (.rp cs' j)
  | agg {cs cs' : List AVal} (hl : cs'.length = cs.length) (h : ∀ i, i < cs.length → LentV H (cs.getD i .junk) (cs'.getD i .junk)) : LentV H (.agg cs) (.agg cs')
  | nil (e : ETy) : LentV H (.v (.slice none 0 0)) (.rd e [])
  | tr {a b d : AVal} (h : LentV H a b) (k : b = d) : LentV H a d
  | own {ro : Bool} {kk : IntKind} {os : List (Option (Nat × Nat))} {xss : List (List Int)} {k m : Nat} (h : H[k]? = some (.row ro (.own kk) os)) (hm : m = os.length) (hl : xss.length = os.length)
      (hi : ∀ i, i < os.length → (os.getD i none = none ∧ xss.getD i [] = []) ∨ ∃ id ro', os.getD i none = some (id, (xss.getD i []).length) ∧ H[id]? = some (.row ro' (.int kk) (xss.getD i []))) : LentV H (.sl 1 k 0 m) (.rd (.sli kk) xss)
def LentL (H : List ABox) : List AVal → List AVal → Prop
  | [], [] => True
  | a :: r, a' :: r' => LentV H a a' ∧ LentL H r r'
  | _, _ => False
theorem LentL.spec {H : List ABox} : ∀ {l l' : List AVal}, LentL H l l' → l'.length = l.length ∧ ∀ i, i < l.length → LentV H (l.getD i .junk) (l'.getD i .junk)
  | [], [], _ => ⟨rfl, fun i h => by simp at h⟩
  | [], _ :: _, h => h.elim
  | _ :: _, [], h => h.elim
  | a :: r, a' :: r', h => by
    obtain ⟨g1, g2⟩ := LentL.spec h.2
    refine ⟨by simp [g1], fun i hi => ?_⟩
    cases i with
    | zero => exact h.1
    | succ i => exact g2 i (by simpa using hi)
theorem lent_slice {c : Ctx} {H : List ABox} {w : World} (hh : RelH c H w) {c' : Ctx} (he : Ext c c')
    (hs : ∀ k Z l, H[k]? = some Z → Z.live = true → c.loc k = some l → c'.sealed l.blk = w.heap[l.blk]?) {ro : Bool} {e : ETy} {xs : List e.T} {k off m : Nat} (hk : H[k]? = some (.row ro e xs)) (hm : off + m ≤ xs.length) :
    ∀ {u : Value}, RelV c (.sl e.sz k off m) u → RelV c' (.rd e ((xs.drop off).take m)) u := by
  intro u hu
  cases hu with
  | @sl _ _ _ _ b o l hl hn ha =>
    obtain ⟨l2, hl2, cells, T, h1, h2, h3, h4, h5⟩ := hh.box k _ hk rfl
    rw [hl] at hl2; cases hl2
    have hsl := hs k _ l hk rfl hl
    rw [h1] at hsl
    have hlen : ((xs.drop off).take m).length = m := by simp; omega
    refine .rd (fun i j => cells.getD (l.off + (off + i) * e.sz + j) undef) hlen (by omega) (fun hp => ?_) (fun i j hi hj => ?_)
    · obtain ⟨rfl, rfl⟩ := ha (by omega)
      refine ⟨l.blk, l.off + off * e.sz, cells, T, (0, 0), rfl, hsl, fun i j hi hj => ?_⟩
      obtain ⟨u, hu, _⟩ := h5 (off + i) j (by omega) hj
      have e1 : l.off + off * e.sz + i * e.sz + j = l.off + (off + i) * e.sz + j := by rw [Nat.add_mul]; omega
      rw [e1, hu]
      simp only [Array.getD_eq_getD_getElem?]
      rw [hu]; rfl
    · obtain ⟨u, hu, hr⟩ := h5 (off + i) j (by omega) hj
      have e2 : ((xs.drop off).take m).getD i e.d = xs.getD (off + i) e.d := by
        simp [List.getD, hi]
      rw [e2]
      have e3 : cells.getD (l.off + (off + i) * e.sz + j) undef = u := by
        simp only [Array.getD_eq_getD_getElem?]
        rw [hu]; rfl
      rw [e3]; exact hr.ext he
theorem lent_rel {c : Ctx} {H : List ABox} {w : World} (hh : RelH c H w) {c' : Ctx} (he : Ext c c')
    (hs : ∀ k Z l, H[k]? = some Z → Z.live = true → c.loc k = some l → c'.sealed l.blk = w.heap[l.blk]?) {a a' : AVal} (h : LentV H a a') : ∀ {u : Value}, RelV c a u → RelV c' a' u := by
  induction h with
  | same a => intro u hu; exact hu.ext he
  | @sl ro e xs k off m hk hm => exact fun hu => lent_slice hh he hs hk hm hu
  | @own ro kk os xss k m hk hm hl hi =>
    intro u hu
    subst hm
    have h1 := lent_slice hh he hs hk (off := 0) (m := os.length) (by omega) hu
    simp only [List.drop_zero, List.take_length] at h1
    cases hu with
    | @sl _ _ _ _ b o l hlo hn ha =>
      obtain ⟨l2, hl2, cells, T, g1, g2, g3, g4, g5⟩ := hh.box k _ hk rfl
      rw [hlo] at hl2; cases hl2
      have hsl := hs k _ l hk rfl hlo
      rw [g1] at hsl
      have cell : ∀ i, i < os.length → cells[l.off + i]? = some (cells.getD (l.off + i) undef) ∧ RelV c' (.rd (.int kk) (xss.getD i [])) (cells.getD (l.off + i) undef) := fun i hi' => by
        obtain ⟨u, hu, hr⟩ := g5 i 0 hi' Nat.one_pos
        simp only [ETy.sz, Nat.mul_one, Nat.add_zero] at hu
        have e3 : cells.getD (l.off + i) undef = u := by
          simp only [Array.getD_eq_getD_getElem?]
          rw [hu]; rfl
        rw [e3]
        refine ⟨hu, ?_⟩
        rcases hi i hi' with ⟨h2, h3⟩ | ⟨id, ro', h2, h3⟩
        · have h2' : os.getD i (ETy.d (.own kk)) = none := h2
          rw [h2'] at hr
          have hu0 := RelV.v_inv (c := c) (x := .slice none 0 0) hr
          rw [hu0, h3]
          exact .rd (fun _ _ => undef) rfl (Nat.le_refl _) (fun h => absurd h (by omega)) (fun i j h => absurd h (by omega))
        have h2' : os.getD i (ETy.d (.own kk)) = some (id, (xss.getD i []).length) := h2
        rw [h2'] at hr
        have := lent_slice hh he hs h3 (off := 0) (m := (xss.getD i []).length) (by omega) (u := u) hr
        simpa using this
      refine .rd (fun i j => cells.getD (l.off + i + j) undef) hl (by omega) (fun hp => ?_) (fun i j hi' hj => ?_)
      · obtain ⟨rfl, rfl⟩ := ha (by omega)
        refine ⟨l.blk, l.off, cells, T, (0, 0), by simp, hsl, fun i j hi' hj => ?_⟩
        have hj0 : j = 0 := by simpa [ETy.sz] using hj
        subst hj0
        simp only [ETy.sz, Nat.mul_one, Nat.add_zero]
        exact (cell i hi').1
      · have hj0 : j = 0 := by simpa [ETy.sz] using hj
        subst hj0
        exact (cell i hi').2
  | @box ro cs cs' sz k j hk hl hc ih =>
    intro u hu
    cases hu with
    | @ptr _ _ _ _ l hlo =>
      obtain ⟨l2, hl2, cells, T, h1, h2, h3⟩ := hh.box k _ hk rfl
      rw [hlo] at hl2; cases hl2
      have hsl := hs k _ l hk rfl hlo
      rw [h1] at hsl
      have key : ∀ i, i < cs.length → cells[l.off + i]? = some (cells.getD (l.off + i) undef) ∧ RelV c (cs.getD i .junk) (cells.getD (l.off + i) undef) := fun i hi => by
        obtain ⟨u, hu, hr⟩ := h3 i hi
        have e3 : cells.getD (l.off + i) undef = u := by
          simp only [Array.getD_eq_getD_getElem?]
          rw [hu]; rfl
        rw [e3]; exact ⟨hu, hr⟩
      have := RelV.rp (c := c') (cs := cs') (j := j) (b := l.blk) (o := l.off) (fun i => cells.getD (l.off + i) undef) hsl (fun i hi => (key i (by omega)).1) (fun i hi => ih i (by omega) (key i (by omega)).2)
      simpa using this
  | agg hl h ih => intro u hu; cases hu with | agg h1 h2 => exact .agg (hl.trans h1) (fun i hi => ih i (by omega) (h2 i (by omega)))
  | nil e =>
    intro u hu; cases hu
    exact .rd (fun _ _ => undef) rfl (Nat.le_refl _) (fun h => absurd h (by omega)) (fun i j h => absurd h (by omega))
  | tr h k ih => intro u hu; exact k ▸ ih hu
theorem NoRdW.unsealed {c : Ctx} {w : World} {l : Loc} : ∀ {Z : ABox}, Z.live = true → NoRdW Z → RelB c w l Z → c.sealed l.blk = none
  | .dead, h, _, _ => by cases h
  | .box ro cs, _, h2, hB => by
    obtain ⟨cells, T, g1, g2, _⟩ := hB
    rw [h2.1] at g2
    exact g2
  | .row ro e xs, _, h2, hB => by
    obtain ⟨cells, T, g1, g2, _⟩ := hB
    rw [h2.1] at g2
    exact g2
  | .map kk es, _, _, hB => hB.2
  | .iter m s l, _, _, hB => hB.2
  | .tab _ _, _, h, _ => h.elim
/-- A CALL TO WHICH ALL IS LENT: the callee sees its caller's memory sealed. -/
theorem AC.lentE {ι : Type} {F : ι → AVal} {N : ι → List ABox} {Φ : ι → Prop} {f : FuncId} {args args' : List AVal} {H : List ABox} (ha : LentL H args args') (hX : ∀ x, Φ x → NoRd (F x)) (hnew : ∀ x, Φ x → ∀ Z ∈ N x, NoRdW Z)
    (h : AC P f args' (killAll H) (fun r H' => ∃ x, Φ x ∧ r = F x ∧ H' = killAll H ++ N x)) : AC P f args H (fun r H' => ∃ x, Φ x ∧ r = F x ∧ H' = H ++ N x) := by
  refine ⟨h.1, fun c vs w hv hh => ?_⟩
  let isK : Nat → Prop := fun b => (∃ k Z l, H[k]? = some Z ∧ Z.live = true ∧ c.loc k = some l ∧ l.blk = b) ∧ c.sealed b = none
  have decK : ∀ b, Decidable (isK b) := fun b => Classical.propDecidable _
  let c' : Ctx := { c with sealed := fun b => @ite _ (isK b) (decK b) (w.heap[b]?) (c.sealed b) }
  have sK : ∀ b, isK b → c'.sealed b = w.heap[b]? := fun b hb => if_pos hb
  have sN : ∀ b, ¬ isK b → c'.sealed b = c.sealed b := fun b hb => if_neg hb
  have he : Ext c c' := ⟨⟨rfl, rfl, rfl, fun b o ho => by
    by_cases hb : isK b
    · rw [hb.2] at ho; cases ho
    · rw [sN b hb]; exact ho⟩, fun _ _ h => h⟩
  -- every live box's block is sealed now, and holds what it holds
  have hs : ∀ k Z l, H[k]? = some Z → Z.live = true → c.loc k = some l → c'.sealed l.blk = w.heap[l.blk]? := fun k Z l hk hZ hl => by
    by_cases hb : isK l.blk
    · exact sK _ hb
    · rw [sN _ hb]
      cases hc : c.sealed l.blk with
      | none => exact absurd ⟨⟨k, Z, l, hk, hZ, hl, rfl⟩, hc⟩ hb
      | some o => exact (hh.sealed _ _ hc).symm
  have hsome : ∀ k Z l, H[k]? = some Z → Z.live = true → c.loc k = some l → ∃ o, w.heap[l.blk]? = some o := fun k Z l hk hZ hl => by
    obtain ⟨l', hl', hB⟩ := hh.box k Z hk hZ
    rw [hl] at hl'; cases hl'
    exact ⟨_, Array.getElem?_eq_getElem (hB.blk_lt hZ)⟩
  have hh' : RelH c' (killAll H) w := by
    refine ⟨hh.os, hh.tape, hh.output, fun b o ho => ?_, fun k hk => hh.dom k (by rwa [killAll_length] at hk), fun k Z hk hZ => ?_, ?_⟩
    · by_cases hb : isK b
      · rw [sK b hb] at ho; exact ho
      · rw [sN b hb] at ho; exact hh.sealed b o ho
    · rw [killAll_get hk] at hZ; cases hZ
    · intro k k' l l' Z Z' hk hZ hk' hZ' hl hl' hb
      rw [killAll_get hk] at hZ; cases hZ
  obtain ⟨hal, hag⟩ := ha.spec
  have hv' : RelCs c' args' vs := ⟨hv.1.trans hal.symm, fun i hi => lent_rel hh he hs (hag i (by omega)) (hv.2 i (by omega))⟩
  refine (h.2 c' vs w hv' hh').mono ?_
  rintro e w' ⟨c2, r, v, H', he2, rfl, hr, hh2, x, hx, rfl, rfl⟩
  let c3 : Ctx := { c2 with sealed := fun b => @ite _ (isK b) (decK b) none (c2.sealed b) }
  have tK : ∀ b, isK b → c3.sealed b = none := fun b hb => if_pos hb
  have tN : ∀ b, ¬ isK b → c3.sealed b = c2.sealed b := fun b hb => if_neg hb
  have he3 : Ext c c3 := ⟨⟨he2.os, he2.tape, he2.output, fun b o ho => by
    by_cases hb : isK b
    · rw [hb.2] at ho; cases ho
    · rw [tN b hb]; exact he2.sealed b o (he.sealed b o ho)⟩, fun k l hl => he2.loc k l hl⟩
  have lowloc : ∀ (k : Nat) (Z : ABox) (l : Loc), H[k]? = some Z → Z.live = true → c2.loc k = some l → c.loc k = some l := fun k Z l hk hZ hl => by
    obtain ⟨l', hl', _⟩ := hh.box k Z hk hZ
    have := he2.loc k l' hl'
    rw [hl] at this; cases this; exact hl'
  have kept : ∀ (k : Nat) (Z : ABox) (l : Loc), H[k]? = some Z → Z.live = true → c.loc k = some l → w'.heap[l.blk]? = w.heap[l.blk]? ∧ c2.sealed l.blk ≠ none ∧ c3.sealed l.blk = c.sealed l.blk := fun k Z l hk hZ hl => by
    obtain ⟨o, ho⟩ := hsome k Z l hk hZ hl
    have h1 := hs k Z l hk hZ hl
    rw [ho] at h1
    have h2 := he2.sealed _ _ h1
    refine ⟨by rw [hh2.sealed _ _ h2, ho], by rw [h2]; simp, ?_⟩
    by_cases hb : isK l.blk
    · rw [tK _ hb, hb.2]
    · rw [tN _ hb, h2]
      rw [sN _ hb] at h1
      exact h1.symm
  have split : ∀ (k : Nat) (Z : ABox), (H ++ N x)[k]? = some Z → Z.live = true → H[k]? = some Z ∨ ((killAll H ++ N x)[k]? = some Z ∧ NoRdW Z) := fun k Z hk hZ => by
    rcases Nat.lt_or_ge k H.length with h1 | h1
    · rw [List.getElem?_append_left h1] at hk
      exact .inl hk
    · rw [List.getElem?_append_right h1] at hk
      exact .inr ⟨by rw [List.getElem?_append_right (by rw [killAll_length]; exact h1), killAll_length]; exact hk, hnew x hx Z (List.mem_of_getElem? hk)⟩
  have nk : ∀ (Z : ABox) (l : Loc), Z.live = true → NoRdW Z → RelB c2 w' l Z → ¬ isK l.blk := fun Z l hZ hw hB hb => by
    obtain ⟨⟨k, Y, l', h1, h2, h3, h4⟩, _⟩ := hb
    have := (kept k Y l' h1 h2 h3).2.1
    rw [h4] at this
    exact this (hw.unsealed hZ hB)
  refine ⟨c3, _, v, _, he3, rfl, (hX x hx).move (c := c2) (c' := c3) rfl hr, ⟨hh2.os, hh2.tape, hh2.output, fun b o ho => ?_, fun k hk => ?_, fun k Z hk hZ => ?_, ?_⟩, x, hx, rfl, rfl⟩
  · by_cases hb : isK b
    · rw [tK b hb] at ho; cases ho
    · rw [tN b hb] at ho; exact hh2.sealed b o ho
  · exact hh2.dom k (by simpa [killAll_length] using hk)
  · rcases split k Z hk hZ with h1 | ⟨h1, h2⟩
    · obtain ⟨l, hl, hB⟩ := hh.box k Z h1 hZ
      obtain ⟨g1, g2, g3⟩ := kept k Z l h1 hZ hl
      exact ⟨l, he3.loc k l hl, hB.carry he3 (fun _ => g1) (fun _ => g3)⟩
    · obtain ⟨l, hl, hB⟩ := hh2.box k Z h1 hZ
      exact ⟨l, hl, hB.move (c := c2) (c' := c3) h2.b rfl (fun _ => tN _ (nk Z l hZ h2 hB))⟩
  · intro k k' l l' Z Z' hk hZ hk' hZ' hl hl' hb
    have apart : ∀ (k k' : Nat) (Z Z' : ABox) (l l' : Loc), H[k]? = some Z → Z.live = true → (killAll H ++ N x)[k']? = some Z' → NoRdW Z' → Z'.live = true → c3.loc k = some l → c3.loc k' = some l' → l.blk ≠ l'.blk := fun k k' Z Z' l l' h1 hZ h1' h2' hZ' hl hl' hb => by
      obtain ⟨m, hm, hB⟩ := hh2.box k' Z' h1' hZ'
      have hm' : c2.loc k' = some l' := hl'
      rw [hm'] at hm; cases hm
      have := (kept k Z l h1 hZ (lowloc k Z l h1 hZ hl)).2.1
      rw [hb] at this
      exact this (h2'.unsealed hZ' hB)
    rcases split k Z hk hZ with h1 | ⟨h1, h2⟩ <;> rcases split k' Z' hk' hZ' with h1' | ⟨h1', h2'⟩
    · exact hh.inj k k' l l' Z Z' h1 hZ h1' hZ' (lowloc k Z l h1 hZ hl) (lowloc k' Z' l' h1' hZ' hl') hb
    · exact absurd hb (apart k k' Z Z' l l' h1 hZ h1' h2' hZ' hl hl')
    · exact absurd hb.symm (apart k' k Z' Z l' l h1' hZ' h1 h2 hZ hl' hl)
    · exact hh2.inj k k' l l' Z Z' h1 hZ h1' hZ' hl hl' hb
theorem AC.lentN {f : FuncId} {args args' : List AVal} {H new : List ABox} {X X' : AVal} (hXX : X = X') (ha : LentL H args args') (hX : NoRd X) (hnew : ∀ Z ∈ new, NoRdW Z)
    (h : AC P f args' (killAll H) (fun r H' => r = X ∧ H' = killAll H ++ new)) : AC P f args H (fun r H' => r = X' ∧ H' = H ++ new) := by
  subst hXX
  refine (AC.lentE (ι := Unit) (F := fun _ => X) (N := fun _ => new) (Φ := fun _ => True) ha (fun _ _ => hX) (fun _ _ => hnew) (h.mono fun r H' ⟨e1, e2⟩ => ⟨(), trivial, e1, e2⟩)).mono ?_
  rintro r H' ⟨_, _, e1, e2⟩
  exact ⟨e1, e2⟩
theorem AC.lent0 {f : FuncId} {args args' : List AVal} {H : List ABox} {X : AVal} (ha : LentL H args args') (hX : NoRd X)
    (h : AC P f args' (killAll H) (fun r H' => r = X ∧ H' = killAll H)) : AC P f args H (fun r H' => r = X ∧ H' = H) := by
  have := AC.lentN (new := []) rfl ha hX (fun Z hZ => by simp at hZ) (h.mono fun r H' ⟨e1, e2⟩ => ⟨e1, by rw [e2, List.append_nil]⟩)
  exact this.mono fun r H' ⟨e1, e2⟩ => ⟨e1, by rw [e2, List.append_nil]⟩
theorem RelB.carryB {n : Nat} {c c' : Ctx} {w : World} {l : Loc} {X : ABox} (h : RelB c w l X) (he : ExtB n c c') (hlt : BoxLt n X) (hs : X.live = true → c'.sealed l.blk = c.sealed l.blk) : RelB c' w l X := by
  cases X with
  | dead => trivial
  | box ro cs =>
    obtain ⟨cells, T, h1, h2, h3⟩ := h
    refine ⟨cells, T, h1, ?_, fun j hj => ?_⟩
    · unfold modeOk at *; rw [hs rfl]; exact h2
    · obtain ⟨u, hu, hr⟩ := h3 j hj; exact ⟨u, hu, hr.extB he (hlt j hj)⟩
  | row ro e xs =>
    obtain ⟨cells, T, h1, h2, h3, h4, h5⟩ := h
    refine ⟨cells, T, h1, ?_, h3, h4, fun i j hi hj => ?_⟩
    · unfold modeOk at *; rw [hs rfl]; exact h2
    · obtain ⟨u, hu, hr⟩ := h5 i j hi hj; exact ⟨u, hu, hr.extB he (hlt i j hi hj)⟩
  | map kk es => exact ⟨h.1, (hs rfl).trans h.2⟩
  | iter m since seen =>
    obtain ⟨⟨lm, h1, h2⟩, h3⟩ := h
    exact ⟨⟨lm, he.loc _ _ hlt h1, h2⟩, (hs rfl).trans h3⟩
  | tab g o => exact ⟨h.1, (hs rfl).trans h.2.1, h.2.2⟩
theorem LentV.boxL {b l : List ABox} {ro : Bool} {cs cs' : List AVal} {sz j q : Nat} (h : l[j]? = some (.box ro cs)) (hc : LentL (b ++ l) cs cs') : LentV (b ++ l) (.ptr sz (b.length + j) 0 q) (.rp cs' q) :=
  .box (app_get.trans h) hc.spec.1 hc.spec.2
theorem LentV.rowL {b l : List ABox} {ro : Bool} {e : ETy} {xs : List e.T} {sz j m : Nat} (hs : sz = e.sz) (h : l[j]? = some (.row ro e xs)) (hm : m = xs.length) : LentV (b ++ l) (.sl sz (b.length + j) 0 m) (.rd e xs) := by
  subst hs; subst hm
  have := LentV.sl (H := b ++ l) (off := 0) (m := xs.length) (app_get.trans h) (by omega)
  simpa using this
theorem LentV.aggL {H : List ABox} {cs cs' : List AVal} (hc : LentL H cs cs') : LentV H (.agg cs) (.agg cs') := .agg hc.spec.1 hc.spec.2
end Go.Eng
end
section
set_option linter.unusedSimpArgs false
set_option linter.unusedVariables false
namespace Go.Proofs.Ytkblikjpdnakiaa
open Go.Eng
abbrev Ch := List Int × List Int
def HasC (c : Ch) (net : Int) (i : Nat) : Prop := c.1.getD i 0 = net ∨ c.2.getD i 0 = net
instance (c : Ch) (net : Int) (i : Nat) : Decidable (HasC c net i) := by unfold HasC; exact inferInstance
/-- The columns below i with pins of a net. -/
def colsTo (c : Ch) (net : Int) : Nat → List Int
  | 0 => []
  | i + 1 => if HasC c net i then colsTo c net i ++ [(i : Int)] else colsTo c net i
def cols (c : Ch) (net : Int) : List Int := colsTo c net c.1.length
/-- The first and the last of them; -1 if there are none. -/
def spanTo (c : Ch) (net : Int) : Nat → Int × Int
  | 0 => (-1, -1)
  | i + 1 => if HasC c net i then (if (spanTo c net i).1 < 0 then (i : Int) else (spanTo c net i).1, (i : Int)) else spanTo c net i
def span (c : Ch) (net : Int) : Int × Int := spanTo c net c.1.length
theorem colsTo_len (c : Ch) (net : Int) : ∀ i, (colsTo c net i).length ≤ i
  | 0 => Nat.le_refl _
  | i + 1 => by
    have := colsTo_len c net i
    unfold colsTo
    split
    · simp; omega
    · omega
theorem spanTo_bnd (c : Ch) (net : Int) : ∀ i, -1 ≤ (spanTo c net i).1 ∧ (spanTo c net i).1 ≤ (spanTo c net i).2 ∧ (spanTo c net i).2 < i ∧ ((spanTo c net i).1 < 0 → (spanTo c net i).2 < 0)
  | 0 => by simp [spanTo]
  | i + 1 => by
    have := spanTo_bnd c net i
    unfold spanTo
    split
    · split <;> simp only <;> omega
    · omega
theorem span_cols (c : Ch) (net : Int) : ∀ i, (colsTo c net i = [] ∧ (spanTo c net i).1 < 0) ∨
    (0 < (colsTo c net i).length ∧ 0 ≤ (spanTo c net i).1 ∧ (colsTo c net i).getD 0 0 = (spanTo c net i).1 ∧ (colsTo c net i).getD ((colsTo c net i).length - 1) 0 = (spanTo c net i).2 ∧
      (1 < (colsTo c net i).length ↔ (spanTo c net i).1 < (spanTo c net i).2))
  | 0 => .inl ⟨rfl, by simp [spanTo]⟩
  | i + 1 => by
    have ih := span_cols c net i
    have hb := spanTo_bnd c net i
    unfold colsTo spanTo
    split
    · right
      rcases ih with ⟨h1, h2⟩ | ⟨h0, h1, h2, h3, h4⟩
      · rw [h1, if_pos h2]
        simp
      · rw [if_neg (by omega)]
        have g1 : (colsTo c net i ++ [(i : Int)]).getD 0 0 = (colsTo c net i).getD 0 0 := by
          simp only [List.getD]; rw [List.getElem?_append_left h0]
        have g2 : (colsTo c net i ++ [(i : Int)]).length = (colsTo c net i).length + 1 := by simp
        have g3 : (colsTo c net i ++ [(i : Int)]).getD ((colsTo c net i).length + 1 - 1) 0 = (i : Int) := by
          simp [List.getD]
        simp only
        rw [g1, g2, g3, h2]
        refine ⟨by omega, h1, rfl, rfl, ?_⟩
        exact ⟨fun _ => by omega, fun _ => by omega⟩
    · exact ih
theorem span_ok (c : Ch) (net : Int) : (cols c net = [] ∧ (span c net).1 < 0) ∨
    (0 < (cols c net).length ∧ 0 ≤ (span c net).1 ∧ (cols c net).getD 0 0 = (span c net).1 ∧ (cols c net).getD ((cols c net).length - 1) 0 = (span c net).2 ∧ (1 < (cols c net).length ↔ (span c net).1 < (span c net).2)) := span_cols c net _
/-- The nets up to n that need a track. -/
def netsTo (c : Ch) : Nat → List Int
  | 0 => []
  | n + 1 => if 1 < (cols c ((n : Int) + 1)).length then netsTo c n ++ [(n : Int) + 1] else netsTo c n
def nets (c : Ch) : List Int := netsTo c 12
theorem netsTo_len (c : Ch) : ∀ n, (netsTo c n).length ≤ n
  | 0 => Nat.le_refl _
  | n + 1 => by
    have := netsTo_len c n
    unfold netsTo
    split
    · simp; omega
    · omega
theorem nets_len (c : Ch) : (nets c).length ≤ 12 := netsTo_len c 12
theorem netsTo_mem (c : Ch) : ∀ n, ∀ x ∈ netsTo c n, 1 ≤ x ∧ x ≤ n ∧ 1 < (cols c x).length
  | 0, x, h => by simp [netsTo] at h
  | n + 1, x, h => by
    unfold netsTo at h
    split at h
    · rename_i hc
      rcases List.mem_append.1 h with h | h
      · have := netsTo_mem c n x h; push_cast; omega
      · simp at h; subst h; refine ⟨by omega, by push_cast; omega, hc⟩
    · have := netsTo_mem c n x h; push_cast; omega
theorem nets_mem (c : Ch) {x : Int} (h : x ∈ nets c) : 1 ≤ x ∧ x ≤ 12 ∧ 1 < (cols c x).length := netsTo_mem c 12 x h
theorem nets_getD (c : Ch) {i : Nat} (h : i < (nets c).length) : (nets c).getD i 0 ∈ nets c := by
  simp only [List.getD, List.getElem?_eq_getElem h, Option.getD_some]; exact List.getElem_mem h
theorem net_iff (c : Ch) (x : Int) : 1 < (cols c x).length ↔ (0 ≤ (span c x).1 ∧ (span c x).1 < (span c x).2) := by
  rcases span_ok c x with ⟨h1, h2⟩ | ⟨_, h1, _, _, h4⟩
  · rw [h1]; simp; omega
  · rw [h4]; exact ⟨fun h => ⟨h1, h⟩, fun h => h.2⟩
/-- How many of the first i nets have a column in their span. -/
def densTo (c : Ch) (col : Int) : Nat → Int
  | 0 => 0
  | i + 1 => if (span c ((nets c).getD i 0)).1 ≤ col ∧ col ≤ (span c ((nets c).getD i 0)).2 then densTo c col i + 1 else densTo c col i
def dens (c : Ch) (col : Int) : Int := densTo c col (nets c).length
def mostTo (c : Ch) : Nat → Int
  | 0 => 0
  | i + 1 => max (mostTo c i) (dens c i)
def most (c : Ch) : Int := mostTo c c.1.length
/-- Is a channel valid? -/
def ChOk (c : Ch) : Prop := (1 ≤ c.1.length ∧ c.1.length ≤ 24 ∧ c.2.length = c.1.length) ∧ (∀ x ∈ c.1 ++ c.2, 0 ≤ x ∧ x ≤ 12) ∧ ∀ k : Int, 1 ≤ k → k ≤ 12 → (c.1 ++ c.2).count k ≠ 1
noncomputable instance (c : Ch) : Decidable (ChOk c) := Classical.propDecidable _
end Go.Proofs.Ytkblikjpdnakiaa
end
section
set_option linter.unusedSimpArgs false
set_option linter.unusedVariables false
namespace Go.Proofs.Ytkblikjpdnakiaa
open Go.Eng
/-! ### Lists that rise by a key -/
abbrev Rise (key : Int → Int) (l : List Int) : Prop := l.Pairwise fun x y => key x < key y
theorem rise_unique (key : Int → Int) : ∀ {a b : List Int}, Rise key a → Rise key b → (∀ x, x ∈ a ↔ x ∈ b) → a = b
  | [], [], _, _, _ => rfl
  | [], y :: b, _, _, h => absurd ((h y).2 (by simp)) (by simp)
  | x :: a, [], _, _, h => absurd ((h x).1 (by simp)) (by simp)
  | x :: a, y :: b, ha, hb, h => by
    obtain ⟨ha1, ha2⟩ := List.pairwise_cons.1 ha
    obtain ⟨hb1, hb2⟩ := List.pairwise_cons.1 hb
    have hxy : x = y := by
      by_cases e : x = y
      · exact e
      · have h1 : x ∈ b := (List.mem_cons.1 ((h x).1 (by simp))).resolve_left e
        have h2 : y ∈ a := (List.mem_cons.1 ((h y).2 (by simp))).resolve_left (fun q => e q.symm)
        have := ha1 y h2
        have := hb1 x h1
        omega
    subst hxy
    have : a = b := rise_unique key ha2 hb2 (fun z => ⟨fun hz => (List.mem_cons.1 ((h z).1 (List.mem_cons_of_mem _ hz))).resolve_left (fun e => by
      subst e; have := ha1 z hz; omega), fun hz => (List.mem_cons.1 ((h z).2 (List.mem_cons_of_mem _ hz))).resolve_left (fun e => by
      subst e; have := hb1 z hz; omega)⟩)
    rw [this]
theorem rise_at {key : Int → Int} {l : List Int} (h : Rise key l) {i j : Nat} (hij : i < j) (hj : j < l.length) : key (l.getD i 0) < key (l.getD j 0) := by
  have := List.pairwise_iff_getElem.1 h i j (by omega) hj hij
  simpa [List.getD, hj, show i < l.length by omega] using this
theorem rise_of {key : Int → Int} {l : List Int} (h : ∀ i j, i < j → j < l.length → key (l.getD i 0) < key (l.getD j 0)) : Rise key l := by
  refine List.pairwise_iff_getElem.2 fun i j hi hj hij => ?_
  have := h i j hij hj
  simpa [List.getD, hj, hi] using this
/-- Put to its place. -/
def insK (key : Int → Int) : List Int → Int → List Int
  | [], x => [x]
  | y :: r, x => if key x < key y then x :: y :: r else y :: insK key r x
theorem insK_mem (key : Int → Int) : ∀ (l : List Int) (x z : Int), z ∈ insK key l x ↔ z = x ∨ z ∈ l
  | [], x, z => by simp [insK]
  | y :: r, x, z => by
    unfold insK
    split
    · simp
    · rw [List.mem_cons, insK_mem key r x z, List.mem_cons]
      constructor
      · rintro (h | h | h) <;> simp [h]
      · rintro (h | h | h) <;> simp [h]
theorem insK_len (key : Int → Int) : ∀ (l : List Int) (x : Int), (insK key l x).length = l.length + 1
  | [], x => rfl
  | y :: r, x => by
    unfold insK
    split
    · simp
    · simp [insK_len key r x]
theorem insK_rise (key : Int → Int) : ∀ {l : List Int} {x : Int}, Rise key l → (∀ y ∈ l, key y ≠ key x) → Rise key (insK key l x)
  | [], x, _, _ => by simp [insK, Rise]
  | y :: r, x, h, hn => by
    obtain ⟨h1, h2⟩ := List.pairwise_cons.1 h
    unfold insK
    split
    · rename_i hc
      refine List.pairwise_cons.2 ⟨fun z hz => ?_, h⟩
      rcases List.mem_cons.1 hz with rfl | hz
      · exact hc
      · have := h1 z hz; omega
    · rename_i hc
      refine List.pairwise_cons.2 ⟨fun z hz => ?_, insK_rise key h2 (fun w hw => hn w (List.mem_cons_of_mem _ hw))⟩
      rcases (insK_mem key r x z).1 hz with rfl | hz
      · have := hn y (by simp); omega
      · exact h1 z hz
theorem insK_all (key : Int → Int) {x : Int} : ∀ {l : List Int}, (∀ y ∈ l, ¬ key x < key y) → insK key l x = l ++ [x]
  | [], _ => rfl
  | y :: r, h => by
    unfold insK
    rw [if_neg (h y (by simp)), insK_all key (fun w hw => h w (List.mem_cons_of_mem _ hw))]
    rfl
theorem insK_snoc (key : Int → Int) {x z : Int} : ∀ {l : List Int}, (∃ y ∈ l, key x < key y) → insK key (l ++ [z]) x = insK key l x ++ [z]
  | [], h => by obtain ⟨y, hy, _⟩ := h; simp at hy
  | y :: r, h => by
    show insK key (y :: (r ++ [z])) x = _
    unfold insK
    by_cases hc : key x < key y
    · rw [if_pos hc, if_pos hc]; rfl
    · rw [if_neg hc, if_neg hc]
      obtain ⟨w, hw, hk⟩ := h
      rcases List.mem_cons.1 hw with rfl | hw
      · exact absurd hk hc
      · rw [insK_snoc key ⟨w, hw, hk⟩]; rfl
theorem insK_here (key : Int → Int) {x z : Int} {l : List Int} (h : ∀ y ∈ l, ¬ key x < key y) (hz : key x < key z) : insK key (l ++ [z]) x = l ++ [x, z] := by
  induction l with
  | nil => simp [insK, hz]
  | cons y r ih =>
    show insK key (y :: (r ++ [z])) x = _
    unfold insK
    rw [if_neg (h y (by simp)), ih (fun w hw => h w (List.mem_cons_of_mem _ hw))]
    rfl
/-- All put to their places. -/
def srtK (key : Int → Int) (T : List Int) : List Int := T.foldl (insK key) []
theorem srtK_snoc (key : Int → Int) (T : List Int) (x : Int) : srtK key (T ++ [x]) = insK key (srtK key T) x := by
  unfold srtK; rw [List.foldl_append]; rfl
theorem foldl_mem (key : Int → Int) : ∀ (T l : List Int) (z : Int), z ∈ T.foldl (insK key) l ↔ z ∈ T ∨ z ∈ l
  | [], l, z => by simp
  | x :: T, l, z => by
    rw [List.foldl_cons, foldl_mem key T _ z, insK_mem, List.mem_cons]
    constructor
    · rintro (h | h | h) <;> simp [h]
    · rintro ((h | h) | h) <;> simp [h]
theorem srtK_mem (key : Int → Int) (T : List Int) (z : Int) : z ∈ srtK key T ↔ z ∈ T := by
  unfold srtK; rw [foldl_mem]; simp
theorem foldl_len (key : Int → Int) : ∀ (T l : List Int), (T.foldl (insK key) l).length = T.length + l.length
  | [], l => by simp
  | x :: T, l => by rw [List.foldl_cons, foldl_len key T, insK_len]; simp; omega
theorem srtK_len (key : Int → Int) (T : List Int) : (srtK key T).length = T.length := by unfold srtK; rw [foldl_len]; simp
theorem foldl_rise (key : Int → Int) : ∀ {T l : List Int}, Rise key l → T.Pairwise (fun x y => key x ≠ key y) → (∀ x ∈ T, ∀ y ∈ l, key y ≠ key x) → Rise key (T.foldl (insK key) l)
  | [], l, h, _, _ => h
  | x :: T, l, h, hp, hn => by
    obtain ⟨h1, h2⟩ := List.pairwise_cons.1 hp
    refine foldl_rise (T := T) (l := insK key l x) key (insK_rise key h (hn x (by simp))) h2 fun w hw y hy => ?_
    rcases (insK_mem key l x y).1 hy with rfl | hy
    · exact h1 w hw
    · exact hn w (List.mem_cons_of_mem _ hw) y hy
theorem srtK_rise (key : Int → Int) {T : List Int} (h : T.Pairwise (fun x y => key x ≠ key y)) : Rise key (srtK key T) :=
  foldl_rise key (l := []) List.Pairwise.nil h (fun _ _ y hy => by simp at hy)
/-- What is sorted is that. -/
theorem srtK_eq (key : Int → Int) {T ys : List Int} (h : T.Pairwise (fun x y => key x ≠ key y)) (hr : Rise key ys) (hm : ∀ z, z ∈ ys ↔ z ∈ T) : ys = srtK key T :=
  rise_unique key hr (srtK_rise key h) fun z => by rw [hm, srtK_mem]
/-! ### The left edge rule -/
abbrev lo (c : Ch) (x : Int) : Int := (span c x).1
abbrev hi (c : Ch) (x : Int) : Int := (span c x).2
/-- One pass along the nets that are left: those taken, those left, where the last one taken ends. -/
def passE (c : Ch) (S : List Int) : Nat → List Int × List Int × Int
  | 0 => ([], [], -1)
  | k + 1 => if (passE c S k).2.2 < lo c (S.getD k 0) then ((passE c S k).1 ++ [S.getD k 0], (passE c S k).2.1, hi c (S.getD k 0)) else ((passE c S k).1, (passE c S k).2.1 ++ [S.getD k 0], (passE c S k).2.2)
theorem passE_take {c : Ch} {S : List Int} {k : Nat} (h : (passE c S k).2.2 < lo c (S.getD k 0)) : passE c S (k + 1) = ((passE c S k).1 ++ [S.getD k 0], (passE c S k).2.1, hi c (S.getD k 0)) := by
  show (if _ then _ else _) = _
  rw [if_pos h]
theorem passE_skip {c : Ch} {S : List Int} {k : Nat} (h : ¬ (passE c S k).2.2 < lo c (S.getD k 0)) : passE c S (k + 1) = ((passE c S k).1, (passE c S k).2.1 ++ [S.getD k 0], (passE c S k).2.2) := by
  show (if _ then _ else _) = _
  rw [if_neg h]
def pass (c : Ch) (S : List Int) : List Int × List Int × Int := passE c S S.length
theorem passE_len (c : Ch) (S : List Int) : ∀ k, (passE c S k).1.length + (passE c S k).2.1.length = k
  | 0 => rfl
  | k + 1 => by
    have := passE_len c S k
    by_cases h : (passE c S k).2.2 < lo c (S.getD k 0)
    · rw [passE_take h]; simp; omega
    · rw [passE_skip h]; simp; omega
theorem passE_mem (c : Ch) (S : List Int) : ∀ k, k ≤ S.length → ∀ x, (x ∈ (passE c S k).1 ∨ x ∈ (passE c S k).2.1) ↔ x ∈ S.take k
  | 0, _, x => by simp [passE]
  | k + 1, hk, x => by
    have ih := passE_mem c S k (by omega) x
    have e : S.take (k + 1) = S.take k ++ [S.getD k 0] := by
      rw [List.take_add_one, List.getElem?_eq_getElem (by omega)]; simp [List.getD, show k < S.length by omega]
    rw [e, List.mem_append, ← ih, List.mem_singleton]
    by_cases h : (passE c S k).2.2 < lo c (S.getD k 0)
    · rw [passE_take h]
      simp only [List.mem_append, List.mem_singleton]
      constructor
      · rintro ((h | h) | h) <;> simp [h]
      · rintro ((h | h) | h) <;> simp [h]
    · rw [passE_skip h]
      simp only [List.mem_append, List.mem_singleton]
      constructor
      · rintro (h | h | h) <;> simp [h]
      · rintro ((h | h) | h) <;> simp [h]
/-- A net's span is one, if it needs a track. -/
def Spans (c : Ch) (S : List Int) : Prop := ∀ x ∈ S, 0 ≤ lo c x ∧ lo c x < hi c x
theorem getD_in {S : List Int} {k : Nat} (h : k < S.length) : S.getD k 0 ∈ S := by
  simp only [List.getD, List.getElem?_eq_getElem h, Option.getD_some]; exact List.getElem_mem h
theorem passE_end {c : Ch} {S : List Int} (hs : Spans c S) (hr : Rise (lo c) S) : ∀ k, k ≤ S.length → -1 ≤ (passE c S k).2.2 ∧ ∀ x ∈ S.take k, lo c x ≤ (passE c S k).2.2
  | 0, _ => by simp [passE]
  | k + 1, hk => by
    obtain ⟨ih1, ih2⟩ := passE_end hs hr k (by omega)
    have e : S.take (k + 1) = S.take k ++ [S.getD k 0] := by
      rw [List.take_add_one, List.getElem?_eq_getElem (by omega)]; simp [List.getD, show k < S.length by omega]
    have hx := hs _ (getD_in (S := S) (k := k) (by omega))
    by_cases h : (passE c S k).2.2 < lo c (S.getD k 0)
    · rw [passE_take h, e]
      refine ⟨by simp only; omega, fun x hx2 => ?_⟩
      rcases List.mem_append.1 hx2 with hx2 | hx2
      · have := ih2 x hx2; simp only; omega
      · obtain rfl := List.mem_singleton.1 hx2; simp only; omega
    · rw [passE_skip h, e]
      refine ⟨ih1, fun x hx2 => ?_⟩
      rcases List.mem_append.1 hx2 with hx2 | hx2
      · exact ih2 x hx2
      · obtain rfl := List.mem_singleton.1 hx2; simp only; omega
/-- What is left is a part of what was there, in its order. -/
theorem passE_sub (c : Ch) (S : List Int) : ∀ k, k ≤ S.length → (passE c S k).2.1.Sublist (S.take k) ∧ (passE c S k).1.Sublist (S.take k)
  | 0, _ => by simp [passE]
  | k + 1, hk => by
    obtain ⟨ih, ih2⟩ := passE_sub c S k (by omega)
    have e : S.take (k + 1) = S.take k ++ [S.getD k 0] := by
      rw [List.take_add_one, List.getElem?_eq_getElem (by omega)]; simp [List.getD, show k < S.length by omega]
    rw [e]
    by_cases h : (passE c S k).2.2 < lo c (S.getD k 0)
    · rw [passE_take h]; exact ⟨ih.trans (List.sublist_append_left _ _), ih2.append (List.Sublist.refl _)⟩
    · rw [passE_skip h]; exact ⟨ih.append (List.Sublist.refl _), ih2.trans (List.sublist_append_left _ _)⟩
theorem passE_dis {c : Ch} {S : List Int} (hr : Rise (lo c) S) : ∀ k, k ≤ S.length → ∀ x ∈ (passE c S k).1, ¬ x ∈ (passE c S k).2.1
  | 0, _, x, hx => by simp [passE] at hx
  | k + 1, hk, x, hx => by
    have ih := passE_dis hr k (by omega) x
    have hnot : ∀ y, y ∈ S.take k → y ≠ S.getD k 0 := fun y hy e => by
      obtain ⟨i, hi, e2⟩ := List.mem_iff_getElem.1 hy
      have hi' : i < k := by simp at hi; omega
      have := rise_at hr hi' (by omega)
      have e3 : S.getD i 0 = y := by rw [← e2, List.getElem_take]; simp [List.getD, show i < S.length by omega]
      rw [e3, e] at this; omega
    have hm := passE_mem c S k (by omega)
    by_cases h : (passE c S k).2.2 < lo c (S.getD k 0)
    · rw [passE_take h] at hx ⊢
      rcases List.mem_append.1 hx with hx | hx
      · exact ih hx
      · obtain rfl := List.mem_singleton.1 hx
        intro h2; exact hnot _ ((hm _).1 (.inr h2)) rfl
    · rw [passE_skip h] at hx ⊢
      intro h2
      rcases List.mem_append.1 h2 with h2 | h2
      · exact ih hx h2
      · exact hnot x ((hm x).1 (.inl hx)) (List.mem_singleton.1 h2)
/-- Nothing is taken where all begin too early. -/
theorem passE_idle {c : Ch} {S : List Int} {k : Nat} : ∀ d, (∀ j, k ≤ j → j < k + d → ¬ (passE c S k).2.2 < lo c (S.getD j 0)) → (passE c S (k + d)).1 = (passE c S k).1 ∧ (passE c S (k + d)).2.2 = (passE c S k).2.2
  | 0, _ => ⟨rfl, rfl⟩
  | d + 1, h => by
    obtain ⟨h1, h2⟩ := passE_idle d fun j h1 h2 => h j h1 (by omega)
    have := h (k + d) (by omega) (by omega)
    rw [← h2] at this
    rw [show k + (d + 1) = k + d + 1 from rfl, passE_skip this]
    exact ⟨h1, h2⟩
/-- A net that may be next. -/
def Cand (c : Ch) (D : List Int) (e : Int) (x : Int) : Prop := x ∈ nets c ∧ e < lo c x ∧ ¬ x ∈ D
instance (c : Ch) (D : List Int) (e x : Int) : Decidable (Cand c D e x) := by unfold Cand; exact inferInstance
/-- What is done and what is left. -/
structure Left (c : Ch) (D S : List Int) : Prop where
  rise : Rise (lo c) S
  mem : ∀ x, x ∈ S ↔ x ∈ nets c ∧ ¬ x ∈ D
  sub : ∀ x ∈ D, x ∈ nets c
  len : D.length + S.length = (nets c).length
theorem Left.spans {c : Ch} {D S : List Int} (h : Left c D S) : Spans c S := fun x hx => by
  obtain ⟨_, _, h3⟩ := nets_mem c ((h.mem x).1 hx).1
  exact (net_iff c x).1 h3
theorem left_none {c : Ch} {D S : List Int} (h : Left c D S) {k : Nat} (hk : k ≤ S.length) (hn : ∀ x, ¬ Cand c (D ++ (passE c S k).1) (passE c S k).2.2 x) : (passE c S k).1 = (pass c S).1 ∧ (pass c S).2.2 = (passE c S k).2.2 := by
  have := passE_idle (c := c) (S := S) (k := k) (S.length - k) fun j h1 h2 hl => by
    have hj : j < S.length := by omega
    have hm := getD_in hj
    refine hn (S.getD j 0) ⟨((h.mem _).1 hm).1, hl, fun hd => ?_⟩
    rcases List.mem_append.1 hd with hd | hd
    · exact ((h.mem _).1 hm).2 hd
    · have := (passE_end h.spans h.rise k hk).2 _ ((passE_mem c S k hk _).1 (.inl hd)); omega
  rw [show k + (S.length - k) = S.length by omega] at this
  exact ⟨this.1.symm, this.2⟩
theorem left_next {c : Ch} {D S : List Int} (h : Left c D S) {k : Nat} (hk : k ≤ S.length) {b : Int} (hb : Cand c (D ++ (passE c S k).1) (passE c S k).2.2 b) (hmin : ∀ x, Cand c (D ++ (passE c S k).1) (passE c S k).2.2 x → lo c b ≤ lo c x) :
    ∃ k', k < k' ∧ k' ≤ S.length ∧ (passE c S k').1 = (passE c S k).1 ++ [b] ∧ (passE c S k').2.2 = hi c b := by
  obtain ⟨h1, h2, h3⟩ := hb
  have hbS : b ∈ S := (h.mem b).2 ⟨h1, fun hd => h3 (List.mem_append_left _ hd)⟩
  obtain ⟨q, hq, e⟩ := List.mem_iff_getElem.1 hbS
  have eq : S.getD q 0 = b := by simp [List.getD, hq, e]
  have hpe := passE_end h.spans h.rise k hk
  have hkq : k ≤ q := by
    by_cases g : k ≤ q
    · exact g
    · have : b ∈ S.take k := by
        rw [← e, List.mem_iff_getElem]
        exact ⟨q, by simp; omega, by rw [List.getElem_take]⟩
      have := hpe.2 b this; omega
  have hid := passE_idle (c := c) (S := S) (k := k) (q - k) fun j g1 g2 hl => by
    have hjq : j < q := by omega
    have hlt := rise_at h.rise hjq hq
    rw [eq] at hlt
    have hm := getD_in (S := S) (k := j) (by omega)
    have := hmin (S.getD j 0) ⟨((h.mem _).1 hm).1, hl, fun hd => by
      rcases List.mem_append.1 hd with hd | hd
      · exact ((h.mem _).1 hm).2 hd
      · have := hpe.2 _ ((passE_mem c S k hk _).1 (.inl hd)); omega⟩
    omega
  rw [show k + (q - k) = q by omega] at hid
  have ht : (passE c S q).2.2 < lo c (S.getD q 0) := by rw [hid.2, eq]; exact h2
  refine ⟨q + 1, by omega, by omega, ?_, ?_⟩
  · rw [passE_take ht, hid.1, eq]
  · rw [passE_take ht, eq]
theorem left_pass {c : Ch} {D S : List Int} (h : Left c D S) : Left c (D ++ (pass c S).1) (pass c S).2.1 := by
  have hsub := passE_sub c S S.length (Nat.le_refl _)
  have hm := passE_mem c S S.length (Nat.le_refl _)
  have hdis := passE_dis h.rise S.length (Nat.le_refl _)
  have hl := passE_len c S S.length
  rw [List.take_length] at hsub hm
  have hlen := h.len
  refine ⟨h.rise.sublist hsub.1, fun x => ?_, fun x hx => ?_, ?_⟩
  · constructor
    · intro hx
      have hxS := (hm x).1 (.inr hx)
      refine ⟨((h.mem x).1 hxS).1, fun hd => ?_⟩
      rcases List.mem_append.1 hd with hd | hd
      · exact ((h.mem x).1 hxS).2 hd
      · exact hdis x hd hx
    · rintro ⟨h1, h2⟩
      have hxS := (h.mem x).2 ⟨h1, fun hd => h2 (List.mem_append_left _ hd)⟩
      rcases (hm x).2 hxS with g | g
      · exact absurd (List.mem_append_right _ g) h2
      · exact g
  · rcases List.mem_append.1 hx with hx | hx
    · exact h.sub x hx
    · exact ((h.mem x).1 ((hm x).1 (.inl hx))).1
  · show (D ++ (passE c S S.length).1).length + (passE c S S.length).2.1.length = _
    rw [List.length_append]; omega
theorem pass_less {c : Ch} {D S : List Int} (h : Left c D S) (h0 : 0 < S.length) : (passE c S 1).1 = [S.getD 0 0] ∧ (pass c S).2.1.length < S.length := by
  have hx := h.spans _ (getD_in h0)
  have h1 : (passE c S 0).2.2 < lo c (S.getD 0 0) := by show (-1 : Int) < _; omega
  have e1 := passE_take h1
  refine ⟨by rw [e1]; rfl, ?_⟩
  have hl := passE_len c S S.length
  have key : ∀ k, 1 ≤ k → k ≤ S.length → 0 < (passE c S k).1.length := by
    intro k hk
    induction k with
    | zero => omega
    | succ k ih =>
      intro hkS
      by_cases e : k = 0
      · subst e; rw [e1]; simp
      · have := ih (by omega) (by omega)
        by_cases g : (passE c S k).2.2 < lo c (S.getD k 0)
        · rw [passE_take g]; simp
        · rw [passE_skip g]; exact this
  have := key S.length h0 (Nat.le_refl _)
  unfold pass; omega
/-- The rounds: the tracks, and the nets that are left. -/
def rnd (c : Ch) (S : List Int) : Nat → List (List Int) × List Int × List Int
  | 0 => ([], S, [])
  | r + 1 => if (rnd c S r).2.1.length = 0 then rnd c S r else ((rnd c S r).1 ++ [srtK id (pass c (rnd c S r).2.1).1], (pass c (rnd c S r).2.1).2.1, (rnd c S r).2.2 ++ (pass c (rnd c S r).2.1).1)
theorem rnd_next {c : Ch} {S : List Int} {r : Nat} (h : 0 < (rnd c S r).2.1.length) : rnd c S (r + 1) = ((rnd c S r).1 ++ [srtK id (pass c (rnd c S r).2.1).1], (pass c (rnd c S r).2.1).2.1, (rnd c S r).2.2 ++ (pass c (rnd c S r).2.1).1) := by
  show (if _ then _ else _) = _
  rw [if_neg (by omega)]
theorem rnd_stop {c : Ch} {S : List Int} {r : Nat} (h : (rnd c S r).2.1.length = 0) : ∀ d, rnd c S (r + d) = rnd c S r
  | 0 => rfl
  | d + 1 => by
    have ih := rnd_stop h d
    show (if (rnd c S (r + d)).2.1.length = 0 then rnd c S (r + d) else _) = _
    rw [ih, if_pos h]
theorem rnd_left {c : Ch} {S : List Int} (h : Left c [] S) : ∀ r, Left c (rnd c S r).2.2 (rnd c S r).2.1 ∧ (r ≤ (rnd c S r).1.length ∨ (rnd c S r).2.1.length = 0) ∧ (rnd c S r).1.length ≤ r ∧ (rnd c S r).2.1.length + (rnd c S r).1.length ≤ S.length
  | 0 => ⟨h, .inl (Nat.zero_le _), Nat.zero_le _, Nat.le_refl _⟩
  | r + 1 => by
    obtain ⟨h1, h2, h3, h4⟩ := rnd_left h r
    by_cases e : (rnd c S r).2.1.length = 0
    · have := rnd_stop e 1
      rw [this]
      exact ⟨h1, .inr e, by omega, h4⟩
    · have hl := (pass_less h1 (by omega)).2
      rw [rnd_next (by omega)]
      refine ⟨left_pass h1, .inl ?_, ?_, ?_⟩
      · simp only [List.length_append, List.length_singleton]; omega
      · simp only [List.length_append, List.length_singleton]; omega
      · simp only [List.length_append, List.length_singleton]; omega
/-- The nets by the low ends of their spans. -/
def byLow (c : Ch) : List Int := srtK (lo c) (nets c)
/-- The tracks by the left edge rule. -/
def edges (c : Ch) : List (List Int) := (rnd c (byLow c) 12).1
theorem edges_at {c : Ch} (h : Left c [] (byLow c)) {r : Nat} (hr : r ≤ 12) (hS : (rnd c (byLow c) r).2.1.length = 0) : (rnd c (byLow c) r).1 = edges c := by
  have := rnd_stop hS (12 - r)
  rw [show r + (12 - r) = 12 by omega] at this
  unfold edges; rw [this]
theorem netsTo_rise (c : Ch) : ∀ n, (netsTo c n).Pairwise (· < ·)
  | 0 => List.Pairwise.nil
  | n + 1 => by
    have ih := netsTo_rise c n
    unfold netsTo
    split
    · refine List.pairwise_append.2 ⟨ih, List.pairwise_singleton _ _, fun x hx y hy => ?_⟩
      obtain rfl := List.mem_singleton.1 hy
      have := netsTo_mem c n x hx
      omega
    · exact ih
theorem nets_rise (c : Ch) : (nets c).Pairwise (· < ·) := netsTo_rise c 12
/-- Where no net must be above another one, no two begin at one column. -/
theorem lows_apart {c : Ch} (hy : c.2.length = c.1.length) (hfree : ∀ i, i < c.1.length → ¬ (c.1.getD i 0 ≠ c.2.getD i 0 ∧ c.1.getD i 0 ∈ nets c ∧ c.2.getD i 0 ∈ nets c)) : (nets c).Pairwise (fun x y => lo c x ≠ lo c y) := by
  refine (nets_rise c).imp_of_mem fun {x y} hx hy2 hlt e => ?_
  have h1 := (net_iff c x).1 (nets_mem c hx).2.2
  have h2 := (net_iff c y).1 (nets_mem c hy2).2.2
  have hb := spanTo_bnd c x c.1.length
  have key : ∀ (net : Int) n, 0 ≤ (spanTo c net n).1 → HasC c net (spanTo c net n).1.toNat := by
    intro net n
    induction n with
    | zero => intro h; simp [spanTo] at h
    | succ n ih =>
      intro h
      have hb := spanTo_bnd c net n
      unfold spanTo at h ⊢
      split
      · rename_i hp
        rw [if_pos hp] at h
        by_cases h0 : (spanTo c net n).1 < 0
        · simp only [if_pos h0, Int.toNat_natCast]; exact hp
        · simp only [if_neg h0]; exact ih (by omega)
      · rename_i hp
        rw [if_neg hp] at h
        exact ih h
  have p1 : HasC c x (lo c x).toNat := key x _ h1.1
  have p2 : HasC c y (lo c y).toNat := key y _ h2.1
  rw [← e] at p2
  have hi : (lo c x).toNat < c.1.length := by
    have : (span c x).2 < (c.1.length : Int) := hb.2.2.1
    have := h1.2
    have := h1.1
    show (span c x).1.toNat < _
    omega
  have hf := hfree _ hi
  have hne : x ≠ y := by omega
  rcases p1 with p1 | p1 <;> rcases p2 with p2 | p2
  · exact hne (p1.symm.trans p2)
  · exact hf ⟨by rw [p1, p2]; exact hne, by rw [p1]; exact hx, by rw [p2]; exact hy2⟩
  · exact hf ⟨by rw [p1, p2]; exact fun q => hne q.symm, by rw [p2]; exact hy2, by rw [p1]; exact hx⟩
  · exact hne (p1.symm.trans p2)
theorem left_start {c : Ch} (h : (nets c).Pairwise (fun x y => lo c x ≠ lo c y)) : Left c [] (byLow c) :=
  ⟨srtK_rise _ h, fun x => by unfold byLow; rw [srtK_mem]; simp, fun _ hx => by simp at hx, by unfold byLow; rw [srtK_len]; simp⟩
end Go.Proofs.Ytkblikjpdnakiaa
end
section
set_option linter.unusedSimpArgs false
set_option linter.unusedVariables false
namespace Go.Eng
variable {P : Program} {E : Env}
/-- The orders of a region, as a tree. -/
inductive Tr where
  | leaf
  | node (cs : List (Nat × Tr))
theorem RelSt.drew {n : Nat} {c : Ctx} {st : St} {a : Act} {w : World} (h : RelSt n c st a w) : RelSt n c st a { w with drawn := w.drawn + 1 } := ⟨h.defers, h.size, h.slots, h.heap.drew, h.hn⟩
section
variable {n : Nat} {Q : Exit → St → Prop} {st : St}
end
/-! ### Maps, said for a walk -/
theorem vNext_step {N : Nat} {s : List (Nat × AVal)} {b l : List ABox} {j m since : Nat} {seen : List Nat} {kk : KK} {es : List (kk.T × Value)} {k : AVal → List ABox → List ABox → Prop}
    (hi : l[j]? = some (.iter (b.length + m) since seen)) (hm : l[m]? = some (.map kk es)) (hs : since = es.length)
    (h1 : ∀ (q : Nat) (e : kk.T × Value), es[q]? = some e → ¬ q ∈ seen → k (.tup [.v (.bool true), kk.av e.1, .ofVal e.2]) b (l.set j (.iter (b.length + m) since (seen ++ [q]))))
    (h2 : (∀ q, q < es.length → q ∈ seen) → k (.tup [.v (.bool false)]) b l) : vNext ⟨N, s, b, l⟩ (.it (b.length + j)) k := by
  have g1 : St.get ⟨N, s, b, l⟩ (b.length + j) = .iter (b.length + m) since seen := by rw [get_loc]; simp [List.getD, hi]
  have g2 : St.get ⟨N, s, b, l⟩ (b.length + m) = .map kk es := by rw [get_loc]; simp [List.getD, hm]
  unfold vNext
  simp only [g1, g2]
  refine ⟨hs, fun q e hq hns => ?_, h2⟩
  rw [setBox_loc]
  exact h1 q e hq hns
theorem entry_last {l : List Nat} {q : Nat} : (l ++ [q]).getLast? = some q := by simp
end Go.Eng
end
section
set_option linter.unusedSimpArgs false
set_option linter.unusedVariables false
namespace Go.Eng
variable {P : Program} {E : Env}
/-- The same boxes, parted otherwise. -/
theorem Weak.rebase {n N : Nat} {s : List (Nat × AVal)} {b l b' l' : List ABox} (h : b ++ l = b' ++ l') (hn : n ≤ b.length → n ≤ b'.length) : Weak n ⟨N, s, b, l⟩ ⟨N, s, b', l'⟩ := fun c a w hr =>
  ⟨c, .refl n c, hn hr.le, hr.rel.defers, hr.rel.size, hr.rel.slots, by
    show RelH c (b' ++ l') w
    rw [← h]; exact hr.rel.heap, rfl⟩
/-- The first of the state's own boxes is put below. -/
theorem Weak.grow {n N : Nat} {s : List (Nat × AVal)} {b l : List ABox} {X : ABox} : Weak n ⟨N, s, b, X :: l⟩ ⟨N, s, b ++ [X], l⟩ :=
  Weak.rebase (by simp) (fun h => by rw [List.length_append]; omega)
theorem FinOk.same {n N : Nat} {s : List (Nat × AVal)} {b l : List ABox} {r : AVal} : FinOk n ⟨N, s, b, l⟩ r r (b ++ l) := fun c v w hn hv hh => ⟨c, .refl _ c, hv, hh⟩
theorem BoxLt.mono {n m : Nat} {X : ABox} (h : BoxLt n X) (hm : n ≤ m) : BoxLt m X := by
  cases X with
  | dead => trivial
  | box ro cs => exact fun i hi => (h i hi).mono hm
  | row ro e xs => exact fun i j hi hj => (h i j hi hj).mono hm
  | map kk es => trivial
  | iter m' a b => exact Nat.lt_of_lt_of_le h hm
  | tab g o => trivial
theorem BaseLt.mono {n m : Nat} {H : List ABox} (h : BaseLt n H) (hm : n ≤ m) : BaseLt m H := fun k hk => (h k hk).mono hm
theorem BaseLt.app {n : Nat} {H L : List ABox} (h : BaseLt n H) (hL : ∀ X ∈ L, BoxLt n X) : BaseLt n (H ++ L) := by
  intro k hk
  simp only [List.getD]
  by_cases g : k < H.length
  · rw [List.getElem?_append_left g]; exact h k g
  · have hk' : k - H.length < L.length := by simp at hk; omega
    rw [List.getElem?_append_right (by omega), List.getElem?_eq_getElem hk']
    exact hL _ (List.getElem_mem hk')
theorem boxLt_plain {n : Nat} {ro : Bool} {e : ETy} (h : e.plain = true) (xs : List e.T) : BoxLt n (.row ro e xs) := fun i j hi hj => ETy.enc_ids e h _ j hj
/-- Lists of numbers, each in a box of its own. -/
def rowsB (xs : List (List Int)) : List ABox := xs.map fun x => .row false (.int .i64) x
theorem rowsB_len (xs : List (List Int)) : (rowsB xs).length = xs.length := by simp [rowsB]
theorem rowsB_snoc (xs : List (List Int)) (x : List Int) : rowsB (xs ++ [x]) = rowsB xs ++ [.row false (.int .i64) x] := by simp [rowsB]
theorem rowsB_nil : rowsB [] = [] := rfl
theorem rowsB_get {xs : List (List Int)} {i : Nat} (h : i < xs.length) : (rowsB xs)[i]? = some (.row false (.int .i64) (xs.getD i [])) := by
  simp [rowsB, List.getD, h]
theorem rowsB_set {xs : List (List Int)} {i : Nat} {x : List Int} : (rowsB xs).set i (.row false (.int .i64) x) = rowsB (xs.set i x) := by
  simp [rowsB, List.map_set]
theorem rowsB_lt (n : Nat) (xs : List (List Int)) : ∀ X ∈ rowsB xs, BoxLt n X := fun X hX => by
  obtain ⟨x, _, rfl⟩ := List.mem_map.1 hX
  exact boxLt_plain rfl x
theorem BaseLt.rows {H : List ABox} (h : BaseLt H.length H) (xs : List (List Int)) : BaseLt (H ++ rowsB xs).length (H ++ rowsB xs) :=
  (h.mono (by simp)).app (rowsB_lt _ xs)
theorem nordW_rows (xs : List (List Int)) : ∀ X ∈ rowsB xs, NoRdW X := fun X hX => by
  obtain ⟨x, _, rfl⟩ := List.mem_map.1 hX
  exact ⟨rfl, rfl⟩
theorem nordW_app {a b : List ABox} (h : ∀ Z ∈ a, NoRdW Z) (k : ∀ Z ∈ b, NoRdW Z) : ∀ Z ∈ a ++ b, NoRdW Z := fun Z hZ => by
  rcases List.mem_append.1 hZ with hZ | hZ
  · exact h Z hZ
  · exact k Z hZ
/-- Their numbers, from g on, and their lengths. -/
def refs : Nat → List (List Int) → List (Option (Nat × Nat))
  | _, [] => []
  | g, x :: r => some (g, x.length) :: refs (g + 1) r
theorem refs_len : ∀ (g : Nat) (xs : List (List Int)), (refs g xs).length = xs.length
  | _, [] => rfl
  | g, x :: r => by simp [refs, refs_len (g + 1) r]
theorem refs_get : ∀ {g : Nat} {xs : List (List Int)} {i : Nat}, i < xs.length → (refs g xs).getD i none = some (g + i, (xs.getD i []).length)
  | g, [], i, h => by simp at h
  | g, x :: r, 0, h => rfl
  | g, x :: r, i + 1, h => by
    have := refs_get (g := g + 1) (xs := r) (i := i) (by simpa using h)
    show (refs (g + 1) r).getD i none = _
    rw [this]
    show some (g + 1 + i, (r.getD i []).length) = some (g + (i + 1), (r.getD i []).length)
    rw [show g + 1 + i = g + (i + 1) by omega]
theorem refs_snoc : ∀ (g : Nat) (xs : List (List Int)) (x : List Int), refs g (xs ++ [x]) = refs g xs ++ [some (g + xs.length, x.length)]
  | g, [], x => rfl
  | g, y :: r, x => by
    show some (g, y.length) :: refs (g + 1) (r ++ [x]) = some (g, y.length) :: (refs (g + 1) r ++ [some (g + (r.length + 1), x.length)])
    rw [refs_snoc (g + 1) r x, show g + 1 + r.length = g + (r.length + 1) by omega]
/-- All numbers in it are below m. -/
def OwnLt (m : Nat) (os : List (Option (Nat × Nat))) : Prop := ∀ i, i < os.length → ∀ p, os.getD i none = some p → p.1 < m
theorem refs_lt {g m : Nat} {xs : List (List Int)} (h : g + xs.length ≤ m) : OwnLt m (refs g xs) := fun i hi p hp => by
  rw [refs_len] at hi
  rw [refs_get hi] at hp
  cases hp
  show g + i < m
  omega
theorem own_ids {m : Nat} {k : IntKind} {o : Option (Nat × Nat)} (h : ∀ p, o = some p → p.1 < m) (j : Nat) (hj : j < 1) : IdsLt m (((ETy.own k).enc o).getD j .junk) := by
  obtain rfl : j = 0 := by omega
  rcases o with _ | p
  · exact .v _
  · exact .sl (h p rfl)
theorem boxLt_own {m : Nat} {ro : Bool} {k : IntKind} {os : List (Option (Nat × Nat))} (h : OwnLt m os) : BoxLt m (.row ro (.own k) os) := fun i j hi hj => own_ids (fun p hp => h i hi p hp) j hj
theorem RenB.ownKeep {m : Nat} {idx : List Nat} {ro : Bool} {k : IntKind} {os : List (Option (Nat × Nat))} (h : OwnLt m os) : RenB m idx (.row ro (.own k) os) (.row ro (.own k) os) := .low (boxLt_own h)
theorem RenB.ownSnoc {m : Nat} {idx : List Nat} {ro : Bool} {k : IntKind} {os : List (Option (Nat × Nat))} {i j len : Nat} (h : OwnLt m os) (hi : idx[j]? = some i) :
    RenB m idx (.row ro (.own k) (os ++ [some (m + j, len)])) (.row ro (.own k) (os ++ [some (m + i, len)])) := by
  refine .row (by simp) (fun q p hq hp => ?_)
  obtain rfl : p = 0 := by have : p < 1 := hp; omega
  by_cases g : q < os.length
  · have e : ∀ y : Option (Nat × Nat), (os ++ [y]).getD q none = os.getD q none := fun y => by simp only [List.getD]; rw [List.getElem?_append_left g]
    show RenV m idx (((ETy.own k).enc ((os ++ [some (m + j, len)]).getD q none)).getD 0 .junk) (((ETy.own k).enc ((os ++ [some (m + i, len)]).getD q none)).getD 0 .junk)
    rw [e, e]
    exact .low (own_ids (fun p hp => h q g p hp) 0 Nat.one_pos)
  · have e : ∀ y : Option (Nat × Nat), (os ++ [y]).getD q none = y := fun y => by
      have : q = os.length := by simp at hq; omega
      subst this
      simp [List.getD]
    show RenV m idx (((ETy.own k).enc ((os ++ [some (m + j, len)]).getD q none)).getD 0 .junk) (((ETy.own k).enc ((os ++ [some (m + i, len)]).getD q none)).getD 0 .junk)
    rw [e, e]
    exact .sl hi
/-- Own rows of own rows, lent. -/
theorem LentV.refs {pre post : List ABox} {ro : Bool} {xs : List (List Int)} {k g : Nat} {H : List ABox} (hk : H[k]? = some (.row ro (.own .i64) (Go.Eng.refs g xs))) (hg : ∀ i, i < xs.length → H[g + i]? = some (.row false (.int .i64) (xs.getD i []))) {m : Nat} (hm : m = xs.length) :
    LentV H (.sl 1 k 0 m) (.rd (.sli .i64) xs) :=
  .own hk (by rw [hm, refs_len]) (refs_len g xs).symm (fun i hi => by
    rw [refs_len] at hi
    exact .inr ⟨g + i, false, refs_get hi, hg i hi⟩)
theorem FinOk.kill0 {n N : Nat} {s : List (Nat × AVal)} {b l : List ABox} {X : ABox} {r : AVal} : FinOk n ⟨N, s, b, X :: l⟩ r r (b ++ .dead :: l) := fun c v w hn hv hh =>
  ⟨c, .refl _ c, hv, by
    have h : RelH c ((b ++ X :: l).set b.length .dead) w := RelH.kill hh b.length
    rwa [List.set_append, if_neg (by omega), Nat.sub_self] at h⟩
/-- Where the boxes of rows stand. -/
theorem lk_row {H pre post : List ABox} {xs : List (List Int)} {i : Nat} (h : i < xs.length) : (H ++ (pre ++ (rowsB xs ++ post)))[H.length + pre.length + i]? = some (.row false (.int .i64) (xs.getD i [])) := by
  rw [← List.append_assoc, List.getElem?_append_right (by simp <;> omega), List.length_append, Nat.add_sub_cancel_left, List.getElem?_append_left (by rw [rowsB_len]; exact h), rowsB_get h]
theorem lk_own {H pre post : List ABox} {xs : List (List Int)} {X : ABox} : (H ++ (pre ++ (rowsB xs ++ (X :: post))))[H.length + (pre.length + xs.length)]? = some X := by
  rw [← List.append_assoc, ← List.append_assoc, List.getElem?_append_right (by simp [rowsB_len] <;> omega)]
  rw [show H.length + (pre.length + xs.length) - (H ++ pre ++ rowsB xs).length = 0 by simp [rowsB_len] <;> omega]
  rfl
theorem rows_set {H pre post : List ABox} {xs : List (List Int)} {i : Nat} {x : List Int} (h : i < xs.length) : (pre ++ (rowsB xs ++ post)).set (pre.length + i) (.row false (.int .i64) x) = pre ++ (rowsB (xs.set i x) ++ post) := by
  rw [List.set_append, if_neg (by omega), Nat.add_sub_cancel_left, List.set_append, if_pos (by rw [rowsB_len]; exact h), rowsB_set]
/-- A call that leaves new boxes behind, of which the caller's walk speaks as it likes. -/
theorem vCall_newL {f : FuncId} {args : List AVal} {N : Nat} {s : List (Nat × AVal)} {b l new : List ABox} {x x' : AVal} {k : AVal → List ABox → List ABox → Prop}
    (h : AC P f args (b ++ l) (fun r H' => r = x ∧ H' = (b ++ l) ++ new)) {l' : List ABox} (hl : l ++ new = l') (hx : x = x') (hk : k x' b l') : vCall P (.fn f []) args ⟨N, s, b, l⟩ k := by
  subst hx; subst hl; exact vCall_new h hk
/-- What a decided condition comes to. -/
theorem rsB : (∀ h : Decidable True, @decide True h = true) ∧ (∀ h : Decidable False, @decide False h = false) ∧ (∀ p : Prop, (p ∧ True) = p) ∧ (∀ p : Prop, (True ∧ p) = p) ∧ (∀ p : Prop, (p ∧ False) = False) ∧ (∀ p : Prop, (False ∧ p) = False) ∧ ((¬ True) = False) ∧ ((¬ False) = True) :=
  ⟨fun h => decide_true h, fun h => decide_false h, fun p => and_true p, fun p => true_and p, fun p => and_false p, fun p => false_and p, not_true_eq_false, not_false_eq_true⟩
end Go.Eng
end
section
set_option linter.unusedSimpArgs false
set_option linter.unusedVariables false
namespace Go.Eng
variable {P : Program} {E : Env}
theorem vcL_ok2 (hE : EnvOk P E) (ops tail : List Oper) : ∀ (rest : List Oper) {n : Nat} {c : Ctx} {st : St} {a : Act} {w : World} (_ : RelSt n c st a w) {K : St → Prop} (_ : vcL P E ops rest st K)
    {Q : Exit → Act → World → Prop} (_ : ∀ c' st' a' w', Ext c c' → RelSt n c' st' a' w' → K st' → wpList P ops.toArray Q tail a' w'), wpList P ops.toArray Q (rest ++ tail) a w
  | [], n, c, st, a, w, hst, K, hk, Q, hQ => hQ c st a w (.refl c) hst hk
  | o :: rest, n, c, st, a, w, hst, K, hk, Q, hQ => by
    have run : (dstOk st.N o.dst ∧ vcOp P E o.op st (fun r b l => vcL P E ops rest (({ st with base := b, loc := l } : St).put o.dst r) K)) → o.wp P a w (wpList P ops.toArray Q (rest ++ tail)) Q := by
      rintro ⟨hd, hop⟩
      refine vcOp_ok hE hst hop fun c' v w' r b l he hr hh hb hkk => ?_
      exact vcL_ok2 hE ops tail rest (hst.put he o.dst (dstOk_lt hd) hr hb hh) hkk (fun c2 st2 a2 w2 he2 => hQ c2 st2 a2 w2 (he.trans he2))
    have skip : (dstOk st.N o.dst ∧ vcL P E ops rest (st.put o.dst (.v undef)) K) → wpList P ops.toArray Q (rest ++ tail) (a.put o.dst undef) w := by
      rintro ⟨hd, hop⟩
      exact vcL_ok2 hE ops tail rest (hst.put (.refl c) o.dst (dstOk_lt hd) (.v _) hst.hn hst.heap) hop hQ
    unfold vcL vGuard at hk
    show wpList P ops.toArray Q (o :: (rest ++ tail)) a w
    unfold wpList
    split at hk
    · rename_i hg
      rw [if_pos (by simp [Region.wanted, hg])]
      exact .inl (run hk)
    · rename_i j want hg
      split at hk
      · exact hk.elim
      · rename_i t ht
        obtain ⟨hlt, hk⟩ := hk
        have hy := yielded_of hst ht hlt
        have hv := hst.slots t
        split at hk
        · rename_i b hb
          rw [hb] at hv
          have hv' := hv.v_inv
          rw [hv'] at hy
          by_cases hbw : b = want
          · rw [if_pos (by simp [Region.wanted, hg, hy, hbw])]
            exact .inl (run (hk.1 hbw))
          · rw [if_neg (by simp [Region.wanted, hg, hy, hbw])]
            exact skip (hk.2 hbw)
        · rename_i vs hb
          rw [hb] at hv
          have hv' := hv.v_inv
          rw [hv'] at hy
          rw [if_neg (by simp [Region.wanted, hg, hy])]
          exact skip hk
        · exact hk.elim
/-- What a region's last operation does, said of the model itself. -/
def LastOk (P : Program) (o : Oper) (n : Nat) (Q : Exit → St → Prop) (st : St) : Prop :=
  ∀ c a w, RelN n c st a w → ∃ v w' c' st', (execOp a.eval o).run P w = .ok (.value v) w' ∧ ExtB n c c' ∧ RelN n c' st' (a.put o.dst v) w' ∧ Q .normal st'
theorem AW.regionLast (hE : EnvOk P E) {n : Nat} {Q : Exit → St → Prop} {st : St} {id : Nat} {l : List Oper} {o : Oper} (hg : o.guard = none)
    (h : ∀ K : St → Prop, (∀ st', LastOk P o n Q st' → K st') → vcL P E (l ++ [o]) l st K) : AW P n (.region id (l ++ [o]).toArray false) Q st := by
  intro c a w hst
  refine wp_region_lit (vcL_ok2 hE (l ++ [o]) [o] l hst.rel (h _ (fun _ h => h)) ?_)
  intro c' st' a' w' he hr hk
  obtain ⟨v, w2, c2, st2, h1, h2, h3, h4⟩ := hk c' a' w' (.of hst.le hr)
  unfold wpList
  rw [if_pos (by simp [Region.wanted, hg])]
  refine .inl (wp_value h1 ?_)
  unfold wpList
  exact ⟨c2, st2, (he.toB n).trans h2, h3, h4⟩
/-- What an operation in a region's midst does, said of the model itself. -/
def MidOk (P : Program) (E : Env) (ops : List Oper) (o : Oper) (l2 : List Oper) (n : Nat) (Q : Exit → St → Prop) (st : St) : Prop :=
  ∀ c a w, RelN n c st a w → ∃ v w' c' st', (o.guard = none ∨ ∃ j want, o.guard = some (j, want) ∧ yielded ops.toArray a.tmps j = some want) ∧ (execOp a.eval o).run P w = .ok (.value v) w' ∧ ExtB n c c' ∧ RelN n c' st' (a.put o.dst v) w' ∧ vcL P E ops l2 st' (fun s => Q .normal s)
theorem AW.regionMid (hE : EnvOk P E) {n : Nat} {Q : Exit → St → Prop} {st : St} {id : Nat} {l1 l2 : List Oper} {o : Oper}
    (h : ∀ K : St → Prop, (∀ st', MidOk P E (l1 ++ o :: l2) o l2 n Q st' → K st') → vcL P E (l1 ++ o :: l2) l1 st K) : AW P n (.region id (l1 ++ o :: l2).toArray false) Q st := by
  intro c a w hst
  refine wp_region_lit (vcL_ok2 hE (l1 ++ o :: l2) (o :: l2) l1 hst.rel (h _ (fun _ h => h)) ?_)
  intro c' st' a' w' he hr hk
  obtain ⟨v, w2, c2, st2, hg, h1, h2, h3, h4⟩ := hk c' a' w' (.of hst.le hr)
  unfold wpList
  rw [if_pos (by
    rcases hg with hg | ⟨j, want, hg, hy⟩
    · simp [Region.wanted, hg]
    · simp [Region.wanted, hg, hy])]
  refine .inl (wp_value h1 ?_)
  refine vcL_ok hE (l1 ++ o :: l2) l2 h3.rel h4 fun c3 st3 a3 w3 he3 hr3 hq => ?_
  exact ⟨c3, st3, (he.toB n).trans (h2.trans (he3.toB n)), .of h3.le hr3, hq⟩
/-- A map's length, asked for under a guard. -/
theorem maplen_mid {ops l2 : List Oper} {o : Oper} {n : Nat} {Q : Exit → St → Prop} {st : St} {T t d k j tg : Nat} {K V : TypeId} {want : Bool} {kk : KK} {es : List (kk.T × Value)}
    (ho : o.op = .call { callee := .builtin .len, args := #[.tmp t], argTypes := #[T] }) (hd : o.dst = some d) (hdN : d < st.N) (ht : lk st.slots t = .mp k) (hT : P.underlying T = some (.map K V))
    (hbox : (st.base ++ st.loc)[k]? = some (.map kk es)) (hg : o.guard = some (j, want)) (hj : (ops[j]?).bind (·.dst) = some tg) (htg : tg < st.N) (hs : lk st.slots tg = .v (.bool want))
    (hk : vcL P E ops l2 (st.put (some d) (.v (.int .i64 es.length))) (fun s => Q .normal s)) : MidOk P E ops o l2 n Q st := by
  intro c a w hr
  obtain ⟨loc, hloc, g1, g2⟩ := hr.rel.heap.box _ _ hbox rfl
  have hv := hr.rel.slots t
  rw [ht] at hv
  generalize hu : a.tmps.getD t undef = u at hv
  cases hv with
  | mp hl2 =>
    rw [hloc] at hl2; cases hl2
    have e1 : a.eval (.tmp t) = .map (some loc.blk) := hu
    refine ⟨.int .i64 es.length, w, c, st.put (some d) (.v (.int .i64 es.length)), .inr ⟨j, want, hg, ?_⟩, ?_, .refl n c, ?_, hk⟩
    · rw [yielded_of hr.rel hj htg]
      have h2 := hr.rel.slots tg
      rw [hs] at h2
      have h3 := h2.v_inv
      rw [h3]
    · simp [execOp, ho, resolve, invoke, builtin, e1, Builtin.len_, run_underlying hT, MapKept.run_getObj_map g1, goInt, entsF_length]
    · rw [hd]
      exact .of hr.le (hr.rel.put (.refl c) (some d) (fun q hq => by cases hq; exact hdN) (.v _) hr.rel.hn hr.rel.heap)
theorem RelH.rewriteRowI {c : Ctx} {H : List ABox} {w w' : World} (h : RelH c H w) {k : Nat} {xs ys : List Int} {l : Loc} (hk : H[k]? = some (.row false (.int .i64) xs)) (hl : c.loc k = some l)
    {cells cells' : Array Value} {T : TypeId} (hb : w.heap[l.blk]? = some (.cells cells T (0, 0))) (hb' : w'.heap[l.blk]? = some (.cells cells' T (0, 0))) (hsz : cells'.size = cells.size)
    (hoth : ∀ b, b ≠ l.blk → b < w.heap.size → w'.heap[b]? = w.heap[b]?) (hos : w'.os = w.os) (ht : w'.tape = w.tape) (ho : w'.output = w.output) (hlen : ys.length = xs.length)
    (hc : ∀ i, i < ys.length → cells'[l.off + i * 1 + 0]? = some (.int .i64 (ys.getD i 0))) : RelH c (H.set k (.row false (.int .i64) ys)) w' := by
  obtain ⟨l2, hl2, cells2, T2, g1, g2, g3, g4, g5⟩ := h.box k _ hk rfl
  rw [hl] at hl2; cases hl2
  rw [hb] at g1; cases g1
  have hseal : c.sealed l.blk = none := g2
  have hkl : k < H.length := (List.getElem?_eq_some_iff.1 hk).1
  have live : ∀ (q : Nat) (X : ABox), (H.set k (.row false (.int .i64) ys))[q]? = some X → X.live = true → ∃ X0, H[q]? = some X0 ∧ X0.live = true := fun q X hq hX => by
    by_cases e : q = k
    · subst e; exact ⟨_, hk, rfl⟩
    · rw [List.getElem?_set_ne (Ne.symm e)] at hq; exact ⟨X, hq, hX⟩
  refine ⟨hos.trans h.os, ht.trans h.tape, ho.trans h.output, fun b o hbo => ?_, fun q hq => h.dom q (by simpa using hq), fun q X hq hX => ?_, fun q q' a a' X X' h1 h2 h3 h4 h5 h6 h7 => ?_⟩
  · have hw := h.sealed b o hbo
    have hne : b ≠ l.blk := fun e => by rw [e, hseal] at hbo; cases hbo
    rw [hoth b hne (Array.getElem?_eq_some_iff.1 hw).1]; exact hw
  · by_cases e : q = k
    · subst e
      rw [List.getElem?_set_self hkl] at hq
      cases hq
      refine ⟨l, hl, cells', T, hb', g2, by rw [hsz]; exact g3, by rw [hlen]; exact g4, fun i j hi hj => ?_⟩
      have hj' : j < 1 := hj
      have := hc i hi
      match j, hj' with
      | 0, _ => exact ⟨_, this, .v _⟩
    · rw [List.getElem?_set_ne (Ne.symm e)] at hq
      obtain ⟨a, ha, hB⟩ := h.box q X hq hX
      have hne : a.blk ≠ l.blk := fun eb => e (h.inj q k a l X _ hq hX hk rfl ha hl eb)
      exact ⟨a, ha, hB.carry (.refl c) (fun _ => hoth _ hne (hB.blk_lt hX)) (fun _ => rfl)⟩
  · obtain ⟨X0, g6, g7⟩ := live q X h1 h2
    obtain ⟨X1, g8, g9⟩ := live q' X' h3 h4
    exact h.inj q q' a a' X0 X1 g6 g7 g8 g9 h5 h6 h7
/-- A part of a list of numbers, cleared. -/
def clrI (xs : List Int) (off m : Nat) : List Int := xs.take off ++ List.replicate m 0 ++ xs.drop (off + m)
theorem clrI_len {xs : List Int} {off m : Nat} (h : off + m ≤ xs.length) : (clrI xs off m).length = xs.length := by simp [clrI]; omega
theorem setRow_other (w : World) (g b : Nat) (cs : Array Value) (h : b ≠ g) : (w.setRow g cs).heap[b]? = w.heap[b]? := by
  unfold World.setRow
  simp only
  rw [Array.getElem?_modify, if_neg (Ne.symm h)]
theorem clrI_getD {xs : List Int} {off m i : Nat} (h : off + m ≤ xs.length) : (clrI xs off m).getD i 0 = if off ≤ i ∧ i < off + m then 0 else xs.getD i 0 := by
  unfold clrI
  simp only [List.getD, List.getElem?_append, List.length_append, List.length_take, List.length_replicate, List.getElem?_take, List.getElem?_replicate, List.getElem?_drop]
  rw [show min off xs.length = off by omega]
  by_cases h1 : i < off
  · rw [if_pos (by omega), if_pos h1, if_pos h1, if_neg (by omega)]
  · by_cases h2 : i < off + m
    · rw [if_pos h2, if_neg h1, if_pos (by omega), if_pos (by omega)]; rfl
    · rw [if_neg h2, if_neg (by omega), show off + m + (i - (off + m)) = i by omega]
theorem zeroCells_i64 (m : Nat) : (Builtin.zeroCells #[Value.int IntKind.i64 0] m).toList = List.replicate m (.int .i64 0) := by
  apply List.ext_getElem
  · simp [Builtin.zeroCells]
  · intro i h1 h2
    simp only [Builtin.zeroCells, Array.toList_map, List.getElem_map, List.getElem_replicate]
    simp [Nat.mod_one]
theorem clearI_last {n : Nat} {Q : Exit → St → Prop} {st : St} {o : Oper} {T et : TypeId} {t k off m : Nat} {xs : List Int}
    (ho : o.op = .call { callee := .builtin .clear, args := #[.tmp t], argTypes := #[T] }) (hd : o.dst = none)
    (ht : lk st.slots t = .sl 1 k off m) (hbox : st.base[k]? = some (.row false (.int .i64) xs)) (hm : off + m ≤ xs.length) (hu : P.underlying T = some (.slice et)) (hz : ∀ w, (zeroValue et).run P w = .ok (.int .i64 0) w)
    (hq : Q .normal { st with base := st.base.set k (.row false (.int .i64) (clrI xs off m)) }) : LastOk P o n Q st := by
  intro c a w hr
  have hkb : k < st.base.length := (List.getElem?_eq_some_iff.1 hbox).1
  have hget : (st.base ++ st.loc)[k]? = some (.row false (.int .i64) xs) := by rw [List.getElem?_append_left hkb]; exact hbox
  obtain ⟨loc, hloc, cells, T', g1, g2, g3, g4, g5⟩ := hr.rel.heap.box _ _ hget rfl
  have hv := hr.rel.slots t
  rw [ht] at hv
  generalize hu' : a.tmps.getD t undef = u at hv
  cases hv with
  | @sl _ _ _ _ b o2 l2 hl2 hn ha =>
    rw [hloc] at hl2; cases hl2
    have hex : ∀ v w', (Builtin.clear_ #[T] o.type #[.slice (some ⟨b, o2, none⟩) m (loc.cap - off)]).run P w = .ok v w' → (execOp a.eval o).run P w = .ok (.value v) w' := fun v w' h => by
      have e1 : a.eval (.tmp t) = .slice (some ⟨b, o2, none⟩) m (loc.cap - off) := hu'
      simp [execOp, ho, resolve, invoke, builtin, e1, h]
    rcases Nat.eq_zero_or_pos m with rfl | hmp
    · have hoff : clrI xs off 0 = xs := by unfold clrI; simp
      refine ⟨_, _, c, _, hex (.tuple #[]) w (by simp [Builtin.clear_, run_underlying hu]), .refl n c, ?_, hq⟩
      have hset : st.base.set k (.row false (.int .i64) (clrI xs off 0)) = st.base := by rw [hoff]; exact set_same hbox
      rw [hset, hd]
      exact hr
    · obtain ⟨rfl, ho2⟩ := ha (by omega)
      have ho3 : o2 = loc.off + off := by rw [ho2]; simp [ETy.sz]
      have hcap : loc.off + loc.cap ≤ cells.size := by simpa [ETy.sz] using g3
      have hcp : xs.length ≤ loc.cap := g4
      clear ho2
      have hzc : (Builtin.zeroCells (Value.int IntKind.i64 0).cells m).toList = List.replicate m (.int .i64 0) := zeroCells_i64 m
      have hst := run_storeCells_at P loc.blk o2 T' (List.replicate m (.int .i64 0)) 0 cells w g1 (by rw [List.length_replicate]; omega) (by intro v hv; rw [List.eq_of_mem_replicate hv]; rfl)
      simp only [Nat.add_zero] at hst
      have hfit : o2 + (List.replicate m (Value.int .i64 0)).length ≤ cells.size := by rw [List.length_replicate]; omega
      obtain ⟨q, rfl⟩ : ∃ q, m = q + 1 := ⟨m - 1, by omega⟩
      refine ⟨_, _, c, _, hex (.tuple #[]) _ (by simp only [Builtin.clear_]; simp [run_underlying hu, hz, hzc, hst]; rfl), .refl n c, ?_, hq⟩
      have hh := hr.rel.heap.rewriteRowI (ys := clrI xs off (q + 1)) hget hloc g1 (setRow_heap w _ _ (cells.toList.take o2 ++ List.replicate (q + 1) (Value.int .i64 0) ++ cells.toList.drop (o2 + (List.replicate (q + 1) (Value.int .i64 0)).length)).toArray _ _ g1)
        (by simp only [List.size_toArray, List.length_append, List.length_take, List.length_drop, Array.length_toList]; omega)
        (fun b hb _ => setRow_other w _ b _ hb) rfl rfl rfl (clrI_len (by omega)) (fun i hi => by
          rw [clrI_len (by omega)] at hi
          rw [stored_get _ _ _ hfit, List.length_replicate, clrI_getD hm]
          by_cases hio : off ≤ i ∧ i < off + (q + 1)
          · rw [if_pos (by omega), if_pos hio]
            simp only [List.getD, List.getElem?_replicate]; rw [if_pos (by omega)]; rfl
          · rw [if_neg (by omega), if_neg hio]
            obtain ⟨u, hu0, hr0⟩ := g5 i 0 hi (by decide)
            have h0 := hr0.v_inv
            subst h0
            exact hu0)
      rw [hd]
      refine ⟨by have := hr.le; simpa using this, hr.rel.defers, hr.rel.size, hr.rel.slots, ?_, rfl⟩
      show RelH c (st.base.set k (.row false (.int .i64) (clrI xs off (q + 1))) ++ st.loc) _
      rw [show st.base.set k (.row false (.int .i64) (clrI xs off (q + 1))) ++ st.loc = (st.base ++ st.loc).set k (.row false (.int .i64) (clrI xs off (q + 1))) by rw [List.set_append, if_pos hkb]]
      rw [List.length_replicate, List.append_assoc] at hh
      exact hh
/-- A call that changes the caller's boxes in what way it likes. -/
theorem vCall_gen {f : FuncId} {cap args : List AVal} {N : Nat} {s : List (Nat × AVal)} {b l b' l' : List ABox} {x : AVal} {k : AVal → List ABox → List ABox → Prop}
    (h : AC P f (args ++ cap) (b ++ l) (fun r H' => r = x ∧ H' = b' ++ l')) (hb : b'.length = b.length) (hk : k x b' l') : vCall P (.fn f cap) args ⟨N, s, b, l⟩ k :=
  h.mono fun r H' ⟨e1, e2⟩ => ⟨b', l', e2, hb, e1 ▸ hk⟩
end Go.Eng
end

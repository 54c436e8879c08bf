/- Texts of this seat that the law stands on, put together. No conditions. -/
import Derived.ProofKit
import Derived.JoinedOf
import GoSem.ClaimOpenFrom
import Derived.Test.YtmkcahfhnehanaaDoorWl6
section
set_option linter.unusedSimpArgs false
set_option linter.unusedVariables false
namespace Go.Eng
variable {P : Program}
theorem wordsSigns_word : ∀ (w r : List Char), w.all (fun c => c != Char.ofNat 32) = true → wordsSigns (w ++ Char.ofNat 32 :: r) = w :: wordsSigns r
  | [], r, _ => rfl
  | c :: w, r, h => by
    simp only [List.all_cons, Bool.and_eq_true] at h
    have ih := wordsSigns_word w r h.2
    have hc : c ≠ Char.ofNat 32 := by simpa using h.1
    show wordsSigns (c :: (w ++ Char.ofNat 32 :: r)) = _
    rw [wordsSigns, ih]
    exact fun e => hc e
theorem behind_cut {a b tail : List Char} (h : P.initOrder.toList = a ++ Char.ofNat 32 :: (b ++ Char.ofNat 32 :: ("cut".toList ++ Char.ofNat 32 :: tail))) (ha : a = "harness".toList) (hb : isSumSigns b = true) (hb2 : b.all (fun c => c != Char.ofNat 32) = true) :
    behindMainWord (wordsSigns P.initOrder.toList) = "cut".toList :: wordsSigns tail := by
  rw [h, wordsSigns_word _ _ (by subst ha; decide), wordsSigns_word _ _ hb2, wordsSigns_word _ _ (by decide)]
  subst ha
  unfold behindMainWord
  simp only [hb]
  rfl
theorem strip_cut (rest : List (List Char)) : stripLifts liftWords ("cut".toList :: rest) = ([], "cut".toList :: rest) := by rfl
section
variable {rest : List (List Char)} (h : behindMainWord (wordsSigns P.initOrder.toList) = "cut".toList :: rest)
include h
theorem mayEnter_of (h1 : P.laysLater = false) (h2 : P.bearsReflect = false) (h3 : P.doorFits [] = true) : P.mayEnter = true := by
  unfold Program.mayEnter
  rw [h]
  simp only [strip_cut, h1, h2, h3]
  rfl
theorem headLifts_of : P.headLifts = [] := by
  unfold Program.headLifts
  rw [h]
  simp only [strip_cut]
  rfl
theorem liftsFinal_of : P.liftsFinal = false := by
  unfold Program.liftsFinal
  rw [h, headLifts_of h]
  rfl
theorem make_of : P.make = some .cut := by
  unfold Program.make
  rw [h]
  rfl
end
/-! ### Ways out -/
section
variable {n : Nat} {Q : Exit → St → Prop} {K : St → Prop} {st : St}
theorem thenQ_exit {id : Nat} (h : Q (.exit id) st) : thenQ K Q (.exit id) st := h
theorem thenQ_ret (h : Q .ret st) : thenQ K Q .ret st := h
theorem blockQ_ret {id : Nat} (h : Q .ret st) : blockQ id Q .ret st := h
theorem blockQ_n {id : Nat} (h : Q .normal st) : blockQ id Q .normal st := h
end
/-! ### A list of the call's own, handed over sealed -/
theorem sealL_dead {k : Nat} {e : ETy} {xs : List e.T} : ∀ (L : List ABox), SealL k e xs (L.map fun _ => .dead) L
  | [] => trivial
  | X :: r => ⟨.dead X, sealL_dead r⟩
theorem FinOk.seal {n m N : Nat} {sl : List (Nat × AVal)} {b loc : List ABox} {r r' : AVal} (j : Nat) (e : ETy) (xs : List e.T) (hB : BaseLt m b) (hj : j < loc.length) (hX : loc.getD j .dead = .row false e xs)
    (hS : SealV (b.length + j) e xs r' r) (hi : IdsLt m r') (hm : b.length = m := by rfl) : FinOk n ⟨N, sl, b, loc⟩ r r' b := by
  intro c v w hn hv hh
  subst hm
  have hst : RelN n c ⟨1, [(0, r)], b, loc⟩ { tmps := #[v], defers := [] } w := by
    refine ⟨hn, rfl, rfl, fun t => ?_, hh, rfl⟩
    show RelV c (lk [(0, r)] t) _
    rw [lk_put]
    by_cases e : 0 = t
    · subst e; rw [if_pos rfl]; exact hv
    · rw [if_neg e]; exact .junk _
  obtain ⟨c', he, hr⟩ := Weak.seal (sl' := [(0, r')]) j hj hX (by simp [List.getD]; cases loc[j]? <;> rfl) (sealL_dead loc) ⟨hS, trivial⟩ c _ w hst
  obtain ⟨c'', he2, h2, h3⟩ := FinOk.drop (st := ⟨1, [(0, r')], b, loc.map fun _ => .dead⟩) hB hi rfl c' v w hn (hr.rel.slots 0) hr.rel.heap
  exact ⟨c'', he.trans he2, h2, h3⟩
theorem SealV.whole {k : Nat} {e : ETy} {xs : List e.T} {sz m : Nat} (hs : sz = e.sz) (hm : m = xs.length) : SealV k e xs (.rd e xs) (.sl sz k 0 m) := by
  subst hs; subst hm
  have := SealV.sl (k := k) (e := e) (xs := xs) (off := 0) (m := xs.length) (by omega)
  simpa using this
theorem wrap64 {z : Int} (h : -9223372036854775808 ≤ z ∧ z ≤ 9223372036854775807) : IntKind.i64.wrap z = z := by
  simp [IntKind.wrap, IntKind.min, IntKind.max, IntKind.signed, IntKind.bits]; omega
end Go.Eng
end
section
set_option linter.unusedSimpArgs false
set_option linter.unusedVariables false
namespace Go.Eng
variable {P : Program} {E : Env}
/-- A call whose result is said outright. -/
def vcC (P : Program) (f : FuncId) (args : List AVal) (st : St) (k : AVal → List ABox → List ABox → Prop) : Prop :=
  ∃ r b l, AC P f args (st.base ++ st.loc) (fun r' H' => r' = r ∧ H' = b ++ l) ∧ b.length = st.base.length ∧ k r b l
def vcF (P : Program) (E : Env) (op : Op) (st : St) (k : AVal → List ABox → List ABox → Prop) : Prop :=
  match op with
  | .call ⟨.value f, args, _⟩ =>
    match st.ev f with
    | .fn g cap => vcC P g (args.toList.map st.ev ++ cap) st k
    | _ => False
  | .next _ _ => False
  | op => vcOp P E op st k
theorem vcF_E {op : Op} {st : St} {k : AVal → List ABox → List ABox → Prop} (h : vcF P E op st k) : vcE P E op st k := by
  cases op with
  | call c =>
    obtain ⟨callee, args, ts⟩ := c
    cases callee <;> exact h
  | _ => exact h
theorem vcC_pure {f : FuncId} {args : List AVal} {N : Nat} {s : List (Nat × AVal)} {b l : List ABox} {x : AVal} {k : AVal → List ABox → List ABox → Prop}
    (h : AC P f args (b ++ l) (fun r H' => r = x ∧ H' = b ++ l)) (hk : k x b l) : vcC P f args ⟨N, s, b, l⟩ k := ⟨x, b, l, h, rfl, hk⟩
def vcD (P : Program) (E : Env) (ops : List Oper) (N : Nat) (b l : List ABox) : List Oper → List (Nat × AVal) → (List (Nat × AVal) → Prop) → Prop
  | [], sl, K => K sl
  | o :: rest, sl, K => dstOk N o.dst ∧ vGuard ops o.guard ⟨N, sl, b, l⟩
      (bif isPure o.op then vcOp P E o.op ⟨N, sl, b, l⟩ (fun r _ _ => vcD P E ops N b l rest (putS sl o.dst r) K)
       else vcF P E o.op ⟨N, sl, b, l⟩ (fun r b' l' => (b' = b ∧ l' = l) ∧ vcD P E ops N b l rest (putS sl o.dst r) K))
      (vcD P E ops N b l rest (putS sl o.dst (.v undef)) K)
theorem vcD_nil {ops : List Oper} {N : Nat} {b l : List ABox} {sl : List (Nat × AVal)} {K : List (Nat × AVal) → Prop} (h : K sl) : vcD P E ops N b l [] sl K := h
theorem vcD_cons {ops : List Oper} {N : Nat} {b l : List ABox} {o : Oper} {rest : List Oper} {sl : List (Nat × AVal)} {K : List (Nat × AVal) → Prop}
    (h : ∀ K' : List (Nat × AVal) → Prop, (∀ sl', vcD P E ops N b l rest sl' K → K' sl') → dstOk N o.dst ∧ vGuard ops o.guard ⟨N, sl, b, l⟩
      (bif isPure o.op then vcOp P E o.op ⟨N, sl, b, l⟩ (fun r _ _ => K' (putS sl o.dst r))
       else vcF P E o.op ⟨N, sl, b, l⟩ (fun r b' l' => (b' = b ∧ l' = l) ∧ K' (putS sl o.dst r)))
      (K' (putS sl o.dst (.v undef)))) : vcD P E ops N b l (o :: rest) sl K := h _ (fun _ h => h)
theorem eff_nil (i : Nat) : effI [] i = false := rfl
theorem cnt_nil : ∀ i, cntE [] i = 0
  | 0 => rfl
  | i + 1 => by simp [cntE, cnt_nil i, eff_nil]
theorem vcD_lex {ops : List Oper} {n : Nat} {st : St} {K : List (Nat × AVal) → Prop} : ∀ (rest : List Oper) (i : Nat) {R : Nat → AVal} {W : Nat → Bool} {Hp : Nat → Heap2} {past : List Heap2} {pend : List (Nat × (Heap2 → Prop))}
    (_ : ∀ k, rest[k]? = ops[i + k]?) (_ : i + rest.length = ops.length) (_ : LexTo P E ops [] n st i R W Hp (st.base, st.loc) past pend) (_ : vcD P E ops st.N st.base st.loc rest (lexSl ops R st.slots i) K),
    ∃ R W Hp, Lex P E ops [] n st R W Hp ∧ K (lexSl ops R st.slots ops.length) ∧ Hp (cntE [] ops.length) = (st.base, st.loc)
  | [], i, R, W, Hp, past, pend, hr, hlen, hL, hv => by
    have hi : i = ops.length := by simpa using hlen
    subst hi
    have lt : ∀ {j : Nat} {o : Oper}, ops[j]? = some o → j < ops.length := fun h => (List.getElem?_eq_some_iff.1 h).1
    exact ⟨R, W, Hp, ⟨hL.h0, hL.hb, fun j o ho => hL.dstN j o (lt ho) ho, fun j o ho => hL.guard j o (lt ho) ho, fun j o ho => hL.skip j o (lt ho) ho, fun j o ho => hL.eff j o (lt ho) ho, fun j o ho => hL.pure j o (lt ho) ho⟩, hv, hL.cur⟩
  | o :: rest, i, R, W, Hp, past, pend, hr, hlen, hL, hv => by
    have ho : ops[i]? = some o := by have := hr 0; simpa using this.symm
    have hr' : ∀ k, rest[k]? = ops[(i + 1) + k]? := fun k => by
      have := hr (k + 1)
      rw [show i + 1 + k = i + (k + 1) by omega, ← this]; simp
    have hlen' : i + 1 + rest.length = ops.length := by simp at hlen; omega
    have next : ∀ (r : AVal), lexSl ops (fun j => if j = i then r else R j) st.slots (i + 1) = putS (lexSl ops R st.slots i) o.dst r := fun r => by
      show (match (ops[i]?).bind (·.dst) with | none => lexSl ops _ st.slots i | some t => (t, if i = i then r else R i) :: lexSl ops _ st.slots i) = _
      rw [lexSl_upd i (Nat.le_refl i), ho, if_pos rfl]
      show (match o.dst with | none => _ | some t => _) = _
      unfold putS
      cases o.dst <;> rfl
    have hn : st.base.length = n := by have := hL.hb _ (Nat.le_refl _); rwa [hL.cur] at this
    unfold vcD at hv
    obtain ⟨hd, hv⟩ := hv
    obtain ⟨w, hg, hrun, hskip⟩ := vGuard_ex hv
    have nf : ∀ {p : Prop}, effI [] i = true → p := fun e => by rw [eff_nil] at e; cases e
    cases w with
    | false =>
      have hs := hskip rfl
      have h2 := hL.step ho (r := .v undef) (w := false) (h' := (st.base, st.loc)) (pend' := pend) hd hg (fun _ => ⟨rfl, rfl⟩) (fun e => (by cases e)) (fun _ => rfl) (fun e => (by cases e)) hn nf (fun _ h => h)
      exact vcD_lex rest (i + 1) hr' hlen' h2 (by rw [next]; exact hs)
    | true =>
      have hs := hrun rfl
      cases hip : isPure o.op with
      | true =>
        rw [hip] at hs
        have hs' : vcOp P E o.op ⟨st.N, lexSl ops R st.slots i, st.base, st.loc⟩ (fun r _ _ => vcD P E ops st.N st.base st.loc rest (putS (lexSl ops R st.slots i) o.dst r) K) := hs
        obtain ⟨r, hk, hall⟩ := vcOp_pure hip hs'
        have h2 := hL.step ho (r := r) (w := true) (h' := (st.base, st.loc)) (pend' := pend) hd hg (fun e => (by cases e)) (fun _ => nf) (fun _ => rfl) (fun _ _ => ⟨fun m _ _ => hall (Hp m), .inl hall⟩) hn nf (fun _ h => h)
        exact vcD_lex rest (i + 1) hr' hlen' h2 (by rw [next]; exact hk)
      | false =>
        rw [hip] at hs
        obtain ⟨r, b, l, ⟨⟨hb, hl⟩, hk⟩, hok⟩ := vcE_ex (vcF_E hs)
        subst hb; subst hl
        have h2 := hL.step ho (r := r) (w := true) (h' := (st.base, st.loc)) (pend' := (hiI [] i, fun h' => OpOK P E o.op ⟨st.N, lexSl ops R st.slots i, h'.1, h'.2⟩ r h') :: pend) hd hg (fun e => (by cases e)) (fun _ => nf) (fun _ => rfl)
          (fun _ _ => ⟨fun m hlo hm => by
            rw [cnt_nil] at hm
            have : m = cntE [] i := by rw [cnt_nil]; omega
            subst this; rw [hL.cur]; exact hok, .inr (.inl ⟨_, List.mem_cons_self, fun _ h => h⟩)⟩) hn nf (fun _ h => List.mem_cons_of_mem _ h)
        exact vcD_lex rest (i + 1) hr' hlen' h2 (by rw [next]; exact hk)
section
variable {n : Nat} {Q : Exit → St → Prop} {st : St}
/-- A REGION THAT DRAWS ITS ORDER and leaves the boxes as they are. -/
theorem AW.d0 (hE : EnvOk P E) (hm : P.follows .mixedOrders = true) (hn : st.base.length = st.base.length) {id : Nat} {l : List Oper} (hchk : drawChk l [] = true)
    (h : ∀ K : List (Nat × AVal) → Prop, (∀ sl, Q .normal ⟨st.N, sl, st.base, st.loc⟩ → K sl) → vcD P E l st.N st.base st.loc l st.slots K) : AW P n (.region id l.toArray true) Q st := by
  intro c a w hst
  have h0 := h _ (fun _ h => h)
  have hL0 : LexTo P E l [] st.base.length st 0 (fun _ => .junk) (fun _ => false) (fun _ => (st.base, st.loc)) (st.base, st.loc) [] [] :=
    ⟨rfl, rfl, rfl, fun q h => (by simp [cntE] at h), fun _ _ => rfl, fun j _ h => absurd h (by omega), fun j _ h => absurd h (by omega), fun j _ h => absurd h (by omega), fun j _ h => absurd h (by omega), fun j _ h => absurd h (by omega), fun j _ h => absurd h (by omega)⟩
  obtain ⟨R, W, Hp, hL, hK, hH⟩ := vcD_lex l 0 (fun k => by rw [Nat.zero_add]) (by simp) hL0 h0
  refine wp_region_any hm ?_
  have hD := drawChk_ok hchk
  have hI : DInv l [] c st R Hp (Array.replicate l.toArray.size false) a { w with drawn := w.drawn + 1 } := by
    have hf : ∀ i, (Array.replicate l.toArray.size false).getD i false = false := fun i => by
      simp only [Array.getD, Array.size_replicate]
      split <;> simp
    refine ⟨by simp, fun i o j _ hl => (by rw [hf] at hl; cases hl), c, 0, .refl c, fun i _ _ => (by rw [hf]; simp), Nat.zero_le _, hst.rel.defers, hst.rel.size, ?_, fun t => ?_⟩
    · rw [hL.h0]; exact hst.rel.heap.drew
    · have := hst.rel.slots t
      cases hw : writer l t with
      | none => exact this
      | some j => simp only [hf, Bool.false_eq_true, if_false]; exact this
  refine dinv_any hE hD hL (fun c' a' w' he hr => ⟨c', _, he.toB n, .of hst.le hr, ?_⟩) _ _ _ _ hI (by simp)
  rw [hH]; exact hK
theorem AW.d0reg (hE : EnvOk P E) (hm : P.follows .mixedOrders = true) (hn : st.base.length = st.base.length) {id : Nat} {l : List Oper} {y : Code} (hchk : drawChk l [] = true)
    (h : ∀ K : List (Nat × AVal) → Prop, (∀ sl, AW P n y Q ⟨st.N, sl, st.base, st.loc⟩ → K sl) → vcD P E l st.N st.base st.loc l st.slots K) : AW P n (.seq (.region id l.toArray true) y) Q st :=
  AW.seq (AW.d0 hE hm hn hchk h)
end
end Go.Eng
end
section
set_option linter.unusedSimpArgs false
set_option linter.unusedVariables false
namespace Go.Eng
variable {P : Program} {E : Env}
theorem vcDr_nil {ops : List Oper} {info : List (Bool × Nat × Nat)} {n N i : Nat} {sl : List (Nat × AVal)} {h : Heap2} {past : List Heap2} {pend : List (Nat × (Heap2 → Prop))} {K : List (Nat × AVal) → Heap2 → Prop}
    (hk : K sl h) : vcDr P E ops info n N i [] sl h past pend K := hk
theorem vGuard_mono {ops : List Oper} {g : Option (Nat × Bool)} {st : St} {p p' q : Prop} (hp : p → p') (hg : vGuard ops g st p q) : vGuard ops g st p' q := by
  cases g with
  | none => exact hp hg
  | some jw =>
    obtain ⟨j, want⟩ := jw
    simp only [vGuard] at hg ⊢
    cases ht : (ops[j]?).bind (·.dst) with
    | none => rw [ht] at hg; exact hg
    | some t =>
      rw [ht] at hg
      refine ⟨hg.1, ?_⟩
      have h2 := hg.2
      revert h2
      generalize lk st.slots t = v
      intro h2
      cases v with
      | v x => cases x <;> first | exact ⟨fun e => hp (h2.1 e), h2.2⟩ | exact h2
      | _ => exact h2
theorem vcDr_cons {ops : List Oper} {info : List (Bool × Nat × Nat)} {n N i : Nat} {o : Oper} {rest : List Oper} {sl : List (Nat × AVal)} {b l : List ABox} {past : List Heap2} {pend : List (Nat × (Heap2 → Prop))} {K : List (Nat × AVal) → Heap2 → Prop}
    (h : ∀ K' : List (Nat × AVal) → List ABox → List ABox → List Heap2 → List (Nat × (Heap2 → Prop)) → Prop, (∀ sl' b' l' past' pend', vcDr P E ops info n N (i + 1) rest sl' (b', l') past' pend' K → K' sl' b' l' past' pend') →
      dstOk N o.dst ∧ vGuard ops o.guard ⟨N, sl, b, l⟩
      (bif isPure o.op then effI info i = false ∧ vcOp P E o.op ⟨N, sl, b, l⟩ (fun r _ _ => K' (putS sl o.dst r) b l past pend)
       else bif effI info i then vcF P E o.op ⟨N, sl, b, l⟩ (fun r b' l' => b'.length = n ∧ pendOk pend (past.length + 1) (b', l') ∧ K' (putS sl o.dst r) b' l' ((b, l) :: past) pend)
       else vcF P E o.op ⟨N, sl, b, l⟩ (fun r b' l' => (b' = b ∧ l' = l) ∧ pastOk past (loI info i) (fun h' => OpOK P E o.op ⟨N, sl, h'.1, h'.2⟩ r h') ∧
          K' (putS sl o.dst r) b l past (if hiI info i ≤ past.length then pend else (hiI info i, fun h' => OpOK P E o.op ⟨N, sl, h'.1, h'.2⟩ r h') :: pend)))
      (bif effI info i then pendOk pend (past.length + 1) (b, l) ∧ K' (putS sl o.dst (.v undef)) b l ((b, l) :: past) pend
       else K' (putS sl o.dst (.v undef)) b l past pend)) : vcDr P E ops info n N i (o :: rest) sl (b, l) past pend K := by
  have h0 := h (fun sl' b' l' past' pend' => vcDr P E ops info n N (i + 1) rest sl' (b', l') past' pend' K) (fun _ _ _ _ _ h => h)
  unfold vcDr
  refine ⟨h0.1, ?_⟩
  refine vGuard_mono ?_ h0.2
  intro h1
  cases hp : isPure o.op with
  | true => rw [hp] at h1; exact h1
  | false =>
    rw [hp] at h1
    cases he : effI info i with
    | true => rw [he] at h1; exact vcF_E h1
    | false => rw [he] at h1; exact vcF_E h1
end Go.Eng
end
section
set_option linter.unusedSimpArgs false
set_option linter.unusedVariables false
namespace Go.Eng
variable {P : Program} {E : Env}
def ETy.plain : ETy → Bool
  | .own _ | .mix _ => false
  | _ => true
/-- No numbers in it. -/
inductive Pl : AVal → Prop where
  | v (x : Value) : Pl (.v x)
  | junk : Pl .junk
  | rd {e : ETy} (h : e.plain = true) (xs : List e.T) : Pl (.rd e xs)
  | agg {cs : List AVal} (h : ∀ x ∈ cs, Pl x) : Pl (.agg cs)
  | tup {cs : List AVal} (h : ∀ x ∈ cs, Pl x) : Pl (.tup cs)
  | rp {cs : List AVal} {j : Nat} (h : ∀ x ∈ cs, Pl x) : Pl (.rp cs j)
  | fn {f : FuncId} {cs : List AVal} (h : ∀ x ∈ cs, Pl x) : Pl (.fn f cs)
theorem pl_nil : ∀ x ∈ ([] : List AVal), Pl x := fun x h => by simp at h
theorem pl_cons {a : AVal} {l : List AVal} (h : Pl a) (k : ∀ x ∈ l, Pl x) : ∀ x ∈ a :: l, Pl x := fun x hx => by
  rcases List.mem_cons.1 hx with rfl | hx
  · exact h
  · exact k x hx
theorem ETy.enc_ids {n : Nat} : ∀ (e : ETy) (h : e.plain = true) (x : e.T) (j : Nat), j < e.sz → IdsLt n ((e.enc x).getD j .junk)
  | .int k, _, x, j, hj => by
    have : j = 0 := by simpa [ETy.sz] using hj
    subst this; exact .v _
  | .bool, _, x, j, hj => by
    have : j = 0 := by simpa [ETy.sz] using hj
    subst this; exact .v _
  | .str, _, x, j, hj => by
    have : j = 0 := by simpa [ETy.sz] using hj
    subst this; exact .v _
  | .pt, _, x, j, hj => by
    have hj' : j < 2 := hj
    match j, hj' with
    | 0, _ => exact .v _
    | 1, _ => exact .v _
  | .sli k, _, x, j, hj => by
    have : j = 0 := by simpa [ETy.sz] using hj
    subst this
    exact .rd (fun i j hi hj => by
      have : j = 0 := by simpa [ETy.sz] using hj
      subst this; exact .v _)
  | .slb, _, x, j, hj => by
    have : j = 0 := by simpa [ETy.sz] using hj
    subst this
    exact .rd (fun i j hi hj => by
      have : j = 0 := by simpa [ETy.sz] using hj
      subst this; exact .v _)
  | .own _, h, _, _, _ => by cases h
  | .mix _, h, _, _, _ => by cases h
  | .st, _, x, j, hj => by
    have hj' : j < 3 := hj
    match j, hj' with
    | 0, _ => exact .v _
    | 1, _ => exact .v _
    | 2, _ => exact .v _
theorem Pl.ids {n : Nat} {a : AVal} (h : Pl a) : IdsLt n a := by
  have get : ∀ {cs : List AVal} {i : Nat}, i < cs.length → cs.getD i .junk ∈ cs := fun {cs i} hi => by
    simp only [List.getD, List.getElem?_eq_getElem hi, Option.getD_some]
    exact List.getElem_mem hi
  induction h with
  | v x => exact .v x
  | junk => exact .junk
  | rd h xs => exact .rd (fun i j hi hj => ETy.enc_ids _ h _ j hj)
  | agg h ih => exact .agg (fun i hi => ih _ (get hi))
  | tup h ih => exact .tup (fun i hi => ih _ (get hi))
  | rp h ih => exact .rp (fun i hi => ih _ (get hi))
  | fn h ih => exact .fn (fun i hi => ih _ (get hi))
theorem RenV.pl {n : Nat} {idx : List Nat} {a : AVal} (h : Pl a) : RenV n idx a a := .low h.ids
theorem RenB.plBox {n : Nat} {idx : List Nat} {ro : Bool} {cs : List AVal} (h : ∀ x ∈ cs, Pl x) : RenB n idx (.box ro cs) (.box ro cs) := .low (fun i hi => by
  have : cs.getD i .junk ∈ cs := by
    simp only [List.getD, List.getElem?_eq_getElem hi, Option.getD_some]
    exact List.getElem_mem hi
  exact (h _ this).ids)
theorem RenB.plRow {n : Nat} {idx : List Nat} {ro : Bool} {e : ETy} (h : e.plain = true) {xs : List e.T} : RenB n idx (.row ro e xs) (.row ro e xs) := .low (fun i j hi hj => ETy.enc_ids e h _ j hj)
theorem v_bool {b : Bool} {p : Prop} [Decidable p] (h : b = true ↔ p) : AVal.v (.bool b) = AVal.v (.bool (decide p)) := by
  congr 2
  cases b <;> simp_all
end Go.Eng
end
section
set_option linter.unusedSimpArgs false
set_option linter.unusedVariables false
namespace Go.Eng
variable {P : Program} {E : Env}
/-! ### Values that lean on no sealed block -/
inductive NoRd : AVal → Prop where
  | v (x : Value) : NoRd (.v x)
  | junk : NoRd .junk
  | ptr {sz k i j : Nat} : NoRd (.ptr sz k i j)
  | sl {sz k off n : Nat} : NoRd (.sl sz k off n)
  | mp {k : Nat} : NoRd (.mp k)
  | agg {cs : List AVal} (h : ∀ x ∈ cs, NoRd x) : NoRd (.agg cs)
  | tup {cs : List AVal} (h : ∀ x ∈ cs, NoRd x) : NoRd (.tup cs)
  | fn {f : FuncId} {cs : List AVal} (h : ∀ x ∈ cs, NoRd x) : NoRd (.fn f cs)
theorem nord_nil : ∀ x ∈ ([] : List AVal), NoRd x := fun x h => by simp at h
theorem nord_cons {a : AVal} {l : List AVal} (h : NoRd a) (k : ∀ x ∈ l, NoRd x) : ∀ x ∈ a :: l, NoRd x := fun x hx => by
  rcases List.mem_cons.1 hx with rfl | hx
  · exact h
  · exact k x hx
theorem getD_mem {cs : List AVal} {i : Nat} (hi : i < cs.length) : cs.getD i .junk ∈ cs := by
  simp only [List.getD, List.getElem?_eq_getElem hi, Option.getD_some]
  exact List.getElem_mem hi
theorem NoRd.move {a : AVal} (h : NoRd a) {c c' : Ctx} (hl : c'.loc = c.loc) : ∀ {u : Value}, RelV c a u → RelV c' a u := by
  induction h with
  | v x => intro u hu; cases hu; exact .v _
  | junk => intro u hu; exact .junk _
  | ptr => intro u hu; cases hu with | ptr h => exact .ptr (by rw [hl]; exact h)
  | sl => intro u hu; cases hu with | sl h h1 h2 => exact .sl (by rw [hl]; exact h) h1 h2
  | mp => intro u hu; cases hu with | mp h => exact .mp (by rw [hl]; exact h)
  | agg h ih => intro u hu; cases hu with | agg h1 h2 => exact .agg h1 (fun i hi => ih _ (getD_mem hi) (h2 i hi))
  | tup h ih => intro u hu; cases hu with | tup h1 h2 => exact .tup h1 (fun i hi => ih _ (getD_mem hi) (h2 i hi))
  | fn h ih => intro u hu; cases hu with | fn h1 h2 => exact .fn h1 (fun i hi => ih _ (getD_mem hi) (h2 i hi))
def ETy.noRd : ETy → Bool
  | .sli _ | .slb | .mix _ => false
  | _ => true
theorem ETy.enc_noRd : ∀ (e : ETy), e.noRd = true → ∀ (x : e.T) (j : Nat), j < e.sz → NoRd ((e.enc x).getD j .junk)
  | .int k, _, x, j, hj => by
    have : j = 0 := by simpa [ETy.sz] using hj
    subst this; exact .v _
  | .bool, _, x, j, hj => by
    have : j = 0 := by simpa [ETy.sz] using hj
    subst this; exact .v _
  | .str, _, x, j, hj => by
    have : j = 0 := by simpa [ETy.sz] using hj
    subst this; exact .v _
  | .pt, _, x, j, hj => by
    have hj' : j < 2 := hj
    match j, hj' with
    | 0, _ => exact .v _
    | 1, _ => exact .v _
  | .own _, _, x, j, hj => by
    have : j = 0 := by simpa [ETy.sz] using hj
    subst this
    rcases (x : Option (Nat × Nat)) with _ | p
    · exact .v _
    · exact .sl
  | .mix _, h, _, _, _ => by cases h
  | .st, _, x, j, hj => by
    have hj' : j < 3 := hj
    match j, hj' with
    | 0, _ => exact .v _
    | 1, _ => exact .v _
    | 2, _ => exact .v _
  | .sli _, h, _, _, _ => by cases h
  | .slb, h, _, _, _ => by cases h
/-- A box whose content leans on no sealed block. -/
def NoRdB : ABox → Prop
  | .dead => True
  | .box _ cs => ∀ x ∈ cs, NoRd x
  | .row _ e _ => e.noRd = true
  | .map _ _ => True
  | .iter _ _ _ => True
  | .tab _ _ => True
/-- And it is written by its owner. -/
def NoRdW : ABox → Prop
  | .dead => True
  | .box ro cs => ro = false ∧ ∀ x ∈ cs, NoRd x
  | .row ro e _ => ro = false ∧ e.noRd = true
  | .map _ _ => True
  | .iter _ _ _ => True
  | .tab _ _ => False
theorem NoRdW.b : ∀ {X : ABox}, NoRdW X → NoRdB X
  | .dead, _ => trivial
  | .box _ _, h => h.2
  | .row _ _ _, h => h.2
  | .map _ _, h => h
  | .iter _ _ _, h => h
  | .tab _ _, h => h.elim
def NoRdH (H : List ABox) : Prop := ∀ X ∈ H, NoRdB X
theorem NoRdH.append {a b : List ABox} (h : NoRdH a) (k : NoRdH b) : NoRdH (a ++ b) := fun X hX => by
  rcases List.mem_append.1 hX with hX | hX
  · exact h X hX
  · exact k X hX
theorem RelB.move {c c' : Ctx} {w : World} {l : Loc} {X : ABox} (hX : NoRdB X) (hl : c'.loc = c.loc) (hs : X.live = true → c'.sealed l.blk = c.sealed l.blk) (h : RelB c w l X) : RelB c' w l X := by
  cases X with
  | dead => trivial
  | box ro cs =>
    obtain ⟨cells, T, h1, h2, h3⟩ := h
    refine ⟨cells, T, h1, ?_, fun j hj => ?_⟩
    · unfold modeOk at *; rw [hs rfl]; exact h2
    · obtain ⟨u, hu, hr⟩ := h3 j hj; exact ⟨u, hu, (hX _ (getD_mem hj)).move hl hr⟩
  | row ro e xs =>
    obtain ⟨cells, T, h1, h2, h3, h4, h5⟩ := h
    refine ⟨cells, T, h1, ?_, h3, h4, fun i j hi hj => ?_⟩
    · unfold modeOk at *; rw [hs rfl]; exact h2
    · obtain ⟨u, hu, hr⟩ := h5 i j hi hj; exact ⟨u, hu, (ETy.enc_noRd e hX _ j hj).move hl hr⟩
  | map kk es => exact ⟨h.1, (hs rfl).trans h.2⟩
  | iter m since seen =>
    obtain ⟨⟨lm, h1, h2⟩, h3⟩ := h
    exact ⟨⟨lm, by rw [hl]; exact h1, h2⟩, (hs rfl).trans h3⟩
  | tab g o => exact ⟨h.1, (hs rfl).trans h.2.1, h.2.2⟩
/-! ### Lists of the call's own, lent -/
/-- A list of one's own. -/
def ABox.lent : ABox → Bool
  | .row false _ _ => true
  | _ => false
inductive LendV (H : List ABox) : AVal → AVal → Prop where
  | same (a : AVal) : LendV H a a
  | sl {e : ETy} {xs : List e.T} {k off m : Nat} (h : H[k]? = some (.row false e xs)) (hm : off + m ≤ xs.length) : LendV H (.sl e.sz k off m) (.rd e ((xs.drop off).take m))
  | agg {cs cs' : List AVal} (hl : cs'.length = cs.length) (h : ∀ i, i < cs.length → LendV H (cs.getD i .junk) (cs'.getD i .junk)) : LendV H (.agg cs) (.agg cs')
  | nil (e : ETy) : LendV H (.v (.slice none 0 0)) (.rd e [])
theorem LendV.whole {H : List ABox} {e : ETy} {xs : List e.T} {sz k m : Nat} (hs : sz = e.sz) (h : H[k]? = some (.row false e xs)) (hm : m = xs.length) : LendV H (.sl sz k 0 m) (.rd e xs) := by
  subst hs; subst hm
  have := LendV.sl (H := H) (e := e) (xs := xs) (k := k) (off := 0) (m := xs.length) h (by omega)
  simpa using this
def LendL (H : List ABox) : List AVal → List AVal → Prop
  | [], [] => True
  | a :: r, a' :: r' => LendV H a a' ∧ LendL H r r'
  | _, _ => False
theorem LendL.spec {H : List ABox} : ∀ {l l' : List AVal}, LendL H l l' → l'.length = l.length ∧ ∀ i, i < l.length → LendV H (l.getD i .junk) (l'.getD i .junk)
  | [], [], _ => ⟨rfl, fun i h => by simp at h⟩
  | [], _ :: _, h => h.elim
  | _ :: _, [], h => h.elim
  | a :: r, a' :: r', h => by
    obtain ⟨g1, g2⟩ := LendL.spec h.2
    refine ⟨by simp [g1], fun i hi => ?_⟩
    cases i with
    | zero => exact h.1
    | succ i => exact g2 i (by simpa using hi)
end Go.Eng
end
section
set_option linter.unusedSimpArgs false
set_option linter.unusedVariables false
namespace Go.Eng
variable {P : Program} {E : Env}
theorem app_get {b l : List ABox} {j : Nat} : (b ++ l)[b.length + j]? = l[j]? := by
  rw [List.getElem?_append_right (by omega), Nat.add_sub_cancel_left]
theorem LendV.loc {b l : List ABox} {e : ETy} {xs : List e.T} {sz j m : Nat} (hs : sz = e.sz) (h : l[j]? = some (.row false e xs)) (hm : m = xs.length) : LendV (b ++ l) (.sl sz (b.length + j) 0 m) (.rd e xs) :=
  LendV.whole hs (app_get.trans h) hm
theorem LendV.part {b l : List ABox} {e : ETy} {xs : List e.T} {sz j off m : Nat} (hs : sz = e.sz) (h : l[j]? = some (.row false e xs)) (hm : off + m ≤ xs.length) : LendV (b ++ l) (.sl sz (b.length + j) off m) (.rd e ((xs.drop off).take m)) := by
  subst hs; exact .sl (app_get.trans h) hm
theorem nordW_nil : ∀ Z ∈ ([] : List ABox), NoRdW Z := fun Z h => by simp at h
theorem nordW_cons {X : ABox} {l : List ABox} (h : NoRdW X) (k : ∀ Z ∈ l, NoRdW Z) : ∀ Z ∈ X :: l, NoRdW Z := fun Y hY => by
  rcases List.mem_cons.1 hY with rfl | hY
  · exact h
  · exact k Y hY
/-- A call that leaves new boxes; what it returns is said anew. -/
theorem vCall_newE {f : FuncId} {args : List AVal} {N : Nat} {s : List (Nat × AVal)} {b l new : List ABox} {x x' : AVal} {k : AVal → List ABox → List ABox → Prop}
    (h : AC P f args (b ++ l) (fun r H' => r = x ∧ H' = (b ++ l) ++ new)) (hx : x = x') (hk : k x' b (l ++ new)) : vCall P (.fn f []) args ⟨N, s, b, l⟩ k := by
  subst hx; exact vCall_new h hk
/-! ### A callee over its caller's boxes: b is below, l0 are the caller's -/
theorem get_bl {N : Nat} {s : List (Nat × AVal)} {b l0 l : List ABox} {j : Nat} : St.get ⟨N, s, b ++ l0, l⟩ (b.length + j) = (l0 ++ l).getD j .dead := by
  simp only [St.get, List.getD]
  rw [List.append_assoc, List.getElem?_append_right (by omega), Nat.add_sub_cancel_left]
theorem setBox_bl {N : Nat} {s : List (Nat × AVal)} {b l0 l : List ABox} {j : Nat} {X : ABox} {K : List ABox → List ABox → Prop} :
    St.setBox ⟨N, s, b ++ l0, l⟩ (b.length + j) X K = if j < l0.length then K (b ++ l0.set j X) l else K (b ++ l0) (l.set (j - l0.length) X) := by
  simp only [St.setBox, List.length_append]
  by_cases h : j < l0.length
  · rw [if_pos (by omega), if_pos h]
    congr 1
    rw [List.set_append, if_neg (by omega), Nat.add_sub_cancel_left]
  · rw [if_neg (by omega), if_neg h]
    congr 2; omega
theorem next_bl {N : Nat} {s : List (Nat × AVal)} {b l0 l : List ABox} : St.next ⟨N, s, b ++ l0, l⟩ = b.length + (l0.length + l.length) := by
  simp only [St.next, List.length_append]; omega
/-- The callee's boxes are handed over: the caller's keep their places, of the callee's own those that are chosen. -/
theorem FinOk.sel {N : Nat} {sl : List (Nat × AVal)} {b l0 l L' : List ABox} {r r' : AVal} {m : Nat} (idx : List Nat) (hB : BaseLt b.length b) (hm : m = (b ++ l0).length) (hnd : idx.Nodup) (hpre : ∀ j, j < l0.length → idx[j]? = some j)
    (hL : RenL b.length idx (l0 ++ l) L' idx) (hr : RenV b.length idx r' r) : FinOk m ⟨N, sl, b ++ l0, l⟩ r r' (b ++ L') := by
  subst hm
  intro c v w hn hv hh
  have hh2 : RelH c (b ++ (l0 ++ l)) w := by rw [← List.append_assoc]; exact hh
  refine ⟨c.sel b.length idx, ⟨⟨rfl, rfl, rfl, fun _ _ h => h⟩, fun k lo hk hlo => ?_⟩, hv.ren hr, hh2.sel hB rfl hL hnd⟩
  rcases Nat.lt_or_ge k b.length with h1 | h1
  · rw [Ctx.sel_low h1]; exact hlo
  · have h2 : k - b.length < l0.length := by simp at hk; omega
    have := Ctx.sel_loc (c := c) (n := b.length) (hpre _ h2)
    rw [show b.length + (k - b.length) = k by omega] at this
    rw [this]; exact hlo
end Go.Eng
end
section
set_option linter.unusedSimpArgs false
set_option linter.unusedVariables false
namespace Go.Eng
variable {P : Program} {E : Env} {n : Nat} {Q : Exit → St → Prop} {st : St}
def midQ (n : Nat) (S : St) (Q : Exit → St → Prop) : Exit → St → Prop
  | .normal, st => Weak n st S
  | e, st => Q e st
theorem midQ_exit {id : Nat} {S st : St} (h : Q (.exit id) st) : midQ n S Q (.exit id) st := h
theorem midQ_ret {S st : St} (h : Q .ret st) : midQ n S Q .ret st := h
/-- Values of two lists, one by one. -/
def RenVL (n : Nat) (idx : List Nat) : List AVal → List AVal → Prop
  | [], [] => True
  | a :: r, b :: s => RenV n idx a b ∧ RenVL n idx r s
  | _, _ => False
theorem RenVL.spec {n : Nat} {idx : List Nat} : ∀ {l' l : List AVal}, RenVL n idx l' l → l'.length = l.length ∧ ∀ i, i < l.length → RenV n idx (l'.getD i .junk) (l.getD i .junk)
  | [], [], _ => ⟨rfl, fun i h => by simp at h⟩
  | [], _ :: _, h => h.elim
  | _ :: _, [], h => h.elim
  | a :: r, b :: s, h => by
    obtain ⟨g1, g2⟩ := RenVL.spec h.2
    refine ⟨by simp [g1], fun i hi => ?_⟩
    cases i with
    | zero => exact h.1
    | succ i => exact g2 i (by simpa using hi)
theorem RenB.of {n : Nat} {idx : List Nat} {ro : Bool} {cs' cs : List AVal} (h : RenVL n idx cs' cs) : RenB n idx (.box ro cs') (.box ro cs) := .box h.spec.1 h.spec.2
theorem RenV.fnL {n : Nat} {idx : List Nat} {f : FuncId} {cs' cs : List AVal} (h : RenVL n idx cs' cs) : RenV n idx (.fn f cs') (.fn f cs) := .fn h.spec.1 h.spec.2
theorem RenV.aggL {n : Nat} {idx : List Nat} {cs' cs : List AVal} (h : RenVL n idx cs' cs) : RenV n idx (.agg cs') (.agg cs) := .agg h.spec.1 h.spec.2
theorem RenV.tupL {n : Nat} {idx : List Nat} {cs' cs : List AVal} (h : RenVL n idx cs' cs) : RenV n idx (.tup cs') (.tup cs) := .tup h.spec.1 h.spec.2
/-! ### A callee that writes one of its caller's lists -/
theorem get_set {l l' : List ABox} {j : Nat} {X : ABox} (h : j < l.length) : ((l.set j X) ++ l').getD j .dead = X := by
  simp only [List.getD]
  rw [List.getElem?_append_left (by simpa using h)]
  simp [h]
theorem set_same {l : List ABox} {j : Nat} {X : ABox} (h : l[j]? = some X) : l.set j X = l := by
  obtain ⟨h1, h2⟩ := List.getElem?_eq_some_iff.1 h
  rw [← h2]; exact List.set_getElem_self h1
theorem set_again {l : List ABox} {j : Nat} {X Y : ABox} : (l.set j X).set j Y = l.set j Y := List.set_set ..
theorem FinOk.base {N : Nat} {sl : List (Nat × AVal)} {b : List ABox} {r : AVal} {m : Nat} : FinOk m ⟨N, sl, b, []⟩ r r b := fun c v w hn hv hh => ⟨c, .refl _ c, hv, by simpa using hh⟩
/-- A call of which something is known. -/
theorem vCall_ex {ι : Type} {Φ : ι → Prop} {F : ι → AVal} {L : ι → List ABox} {f : FuncId} {args : List AVal} {N : Nat} {s : List (Nat × AVal)} {b l : List ABox} {k : AVal → List ABox → List ABox → Prop}
    (h : AC P f args (b ++ l) (fun r H' => ∃ x, Φ x ∧ r = F x ∧ H' = b ++ L x)) (hk : ∀ x, Φ x → k (F x) b (L x)) : vCall P (.fn f []) args ⟨N, s, b, l⟩ k := by
  show AC P f (args ++ []) (b ++ l) _
  rw [List.append_nil]
  exact h.mono fun r H' ⟨x, h1, h2, h3⟩ => ⟨b, L x, h3, rfl, h2 ▸ hk x h1⟩
theorem bitAnd_255 (y : Int) : 0 ≤ bitAnd .u64 y 255 ∧ bitAnd .u64 y 255 ≤ 255 := by
  unfold bitAnd
  have h : (BitVec.ofInt IntKind.u64.bits y &&& BitVec.ofInt IntKind.u64.bits 255).toNat ≤ 255 := by
    rw [BitVec.toNat_and]
    exact Nat.le_trans Nat.and_le_right (by decide)
  generalize (BitVec.ofInt IntKind.u64.bits y &&& BitVec.ofInt IntKind.u64.bits 255).toNat = m at h
  simp [IntKind.wrap, IntKind.min, IntKind.max, IntKind.signed, IntKind.bits]
  omega
theorem get_set0 {l : List ABox} {j : Nat} {X : ABox} (h : j < l.length) : (l.set j X).getD j .dead = X := by simp [List.getD, h]
theorem base_len {H l : List ABox} {j : Nat} {X Y : ABox} : (H ++ l.set j X).length = (H ++ l.set j Y).length := by simp
theorem base_len0 {H l : List ABox} {j : Nat} {X : ABox} : (H ++ l.set j X).length = (H ++ l).length := by simp
theorem vCall_exB {ι : Type} {Φ : ι → Prop} {F : ι → AVal} {L : ι → List ABox} {f : FuncId} {args : List AVal} {N : Nat} {s : List (Nat × AVal)} {b l : List ABox} {k : AVal → List ABox → List ABox → Prop}
    (h : AC P f args (b ++ l) (fun r H' => ∃ x, Φ x ∧ r = F x ∧ H' = b ++ L x)) (hL : ∀ x, (L x).length = l.length) (hk : ∀ x, Φ x → k (F x) (b ++ L x) []) : vCall P (.fn f []) args ⟨N, s, b ++ l, []⟩ k := by
  show AC P f (args ++ []) ((b ++ l) ++ []) _
  rw [List.append_nil, List.append_nil]
  exact h.mono fun r H' ⟨x, h1, h2, h3⟩ => ⟨b ++ L x, [], by rw [h3, List.append_nil], by simp [hL x], h2 ▸ hk x h1⟩
end Go.Eng
end
section
set_option linter.unusedSimpArgs false
set_option linter.unusedVariables false
namespace Go.Eng
variable {P : Program} {E : Env}
def killAll (H : List ABox) : List ABox := H.map fun _ => .dead
theorem killAll_length (H : List ABox) : (killAll H).length = H.length := by simp [killAll]
theorem killAll_get {H : List ABox} {k : Nat} {Z : ABox} (h : (killAll H)[k]? = some Z) : Z.live = false := by
  unfold killAll at h
  rw [List.getElem?_map, Option.map_eq_some_iff] at h
  obtain ⟨Y, hY, he⟩ := h
  subst he; rfl
/-- What is lent, as the callee sees it. -/
inductive LentV (H : List ABox) : AVal → AVal → Prop where
  | same (a : AVal) : LentV H a a
  | sl {ro : Bool} {e : ETy} {xs : List e.T} {k off m : Nat} (h : H[k]? = some (.row ro e xs)) (hm : off + m ≤ xs.length) : LentV H (.sl e.sz k off m) (.rd e ((xs.drop off).take m))
  | box {ro : Bool} {cs cs' : List AVal} {sz k j : Nat} (h : H[k]? = some (.box ro cs)) (hl : cs'.length = cs.length) (hc : ∀ i, i < cs.length → LentV H (cs.getD i .junk) (cs'.getD i .junk)) : LentV H (.ptr sz k 0 j) (.rp cs' j)
  | agg {cs cs' : List AVal} (hl : cs'.length = cs.length) (h : ∀ i, i < cs.length → LentV H (cs.getD i .junk) (cs'.getD i .junk)) : LentV H (.agg cs) (.agg cs')
  | nil (e : ETy) : LentV H (.v (.slice none 0 0)) (.rd e [])
  | tr {a b d : AVal} (h : LentV H a b) (k : b = d) : LentV H a d
  | own {ro : Bool} {kk : IntKind} {os : List (Option (Nat × Nat))} {xss : List (List Int)} {k m : Nat} (h : H[k]? = some (.row ro (.own kk) os)) (hm : m = os.length) (hl : xss.length = os.length)
      (hi : ∀ i, i < os.length → (os.getD i none = none ∧ xss.getD i [] = []) ∨ ∃ id ro', os.getD i none = some (id, (xss.getD i []).length) ∧ H[id]? = some (.row ro' (.int kk) (xss.getD i []))) : LentV H (.sl 1 k 0 m) (.rd (.sli kk) xss)
def LentL (H : List ABox) : List AVal → List AVal → Prop
  | [], [] => True
  | a :: r, a' :: r' => LentV H a a' ∧ LentL H r r'
  | _, _ => False
theorem LentL.spec {H : List ABox} : ∀ {l l' : List AVal}, LentL H l l' → l'.length = l.length ∧ ∀ i, i < l.length → LentV H (l.getD i .junk) (l'.getD i .junk)
  | [], [], _ => ⟨rfl, fun i h => by simp at h⟩
  | [], _ :: _, h => h.elim
  | _ :: _, [], h => h.elim
  | a :: r, a' :: r', h => by
    obtain ⟨g1, g2⟩ := LentL.spec h.2
    refine ⟨by simp [g1], fun i hi => ?_⟩
    cases i with
    | zero => exact h.1
    | succ i => exact g2 i (by simpa using hi)
theorem lent_slice {c : Ctx} {H : List ABox} {w : World} (hh : RelH c H w) {c' : Ctx} (he : Ext c c')
    (hs : ∀ k Z l, H[k]? = some Z → Z.live = true → c.loc k = some l → c'.sealed l.blk = w.heap[l.blk]?) {ro : Bool} {e : ETy} {xs : List e.T} {k off m : Nat} (hk : H[k]? = some (.row ro e xs)) (hm : off + m ≤ xs.length) :
    ∀ {u : Value}, RelV c (.sl e.sz k off m) u → RelV c' (.rd e ((xs.drop off).take m)) u := by
  intro u hu
  cases hu with
  | @sl _ _ _ _ b o l hl hn ha =>
    obtain ⟨l2, hl2, cells, T, h1, h2, h3, h4, h5⟩ := hh.box k _ hk rfl
    rw [hl] at hl2; cases hl2
    have hsl := hs k _ l hk rfl hl
    rw [h1] at hsl
    have hlen : ((xs.drop off).take m).length = m := by simp; omega
    refine .rd (fun i j => cells.getD (l.off + (off + i) * e.sz + j) undef) hlen (by omega) (fun hp => ?_) (fun i j hi hj => ?_)
    · obtain ⟨rfl, rfl⟩ := ha (by omega)
      refine ⟨l.blk, l.off + off * e.sz, cells, T, (0, 0), rfl, hsl, fun i j hi hj => ?_⟩
      obtain ⟨u, hu, _⟩ := h5 (off + i) j (by omega) hj
      have e1 : l.off + off * e.sz + i * e.sz + j = l.off + (off + i) * e.sz + j := by rw [Nat.add_mul]; omega
      rw [e1, hu]
      simp only [Array.getD_eq_getD_getElem?]
      rw [hu]; rfl
    · obtain ⟨u, hu, hr⟩ := h5 (off + i) j (by omega) hj
      have e2 : ((xs.drop off).take m).getD i e.d = xs.getD (off + i) e.d := by
        simp [List.getD, hi]
      rw [e2]
      have e3 : cells.getD (l.off + (off + i) * e.sz + j) undef = u := by
        simp only [Array.getD_eq_getD_getElem?]
        rw [hu]; rfl
      rw [e3]; exact hr.ext he
theorem lent_rel {c : Ctx} {H : List ABox} {w : World} (hh : RelH c H w) {c' : Ctx} (he : Ext c c')
    (hs : ∀ k Z l, H[k]? = some Z → Z.live = true → c.loc k = some l → c'.sealed l.blk = w.heap[l.blk]?) {a a' : AVal} (h : LentV H a a') : ∀ {u : Value}, RelV c a u → RelV c' a' u := by
  induction h with
  | same a => intro u hu; exact hu.ext he
  | @sl ro e xs k off m hk hm => exact fun hu => lent_slice hh he hs hk hm hu
  | @own ro kk os xss k m hk hm hl hi =>
    intro u hu
    subst hm
    have h1 := lent_slice hh he hs hk (off := 0) (m := os.length) (by omega) hu
    simp only [List.drop_zero, List.take_length] at h1
    cases hu with
    | @sl _ _ _ _ b o l hlo hn ha =>
      obtain ⟨l2, hl2, cells, T, g1, g2, g3, g4, g5⟩ := hh.box k _ hk rfl
      rw [hlo] at hl2; cases hl2
      have hsl := hs k _ l hk rfl hlo
      rw [g1] at hsl
      have cell : ∀ i, i < os.length → cells[l.off + i]? = some (cells.getD (l.off + i) undef) ∧ RelV c' (.rd (.int kk) (xss.getD i [])) (cells.getD (l.off + i) undef) := fun i hi' => by
        obtain ⟨u, hu, hr⟩ := g5 i 0 hi' Nat.one_pos
        simp only [ETy.sz, Nat.mul_one, Nat.add_zero] at hu
        have e3 : cells.getD (l.off + i) undef = u := by
          simp only [Array.getD_eq_getD_getElem?]
          rw [hu]; rfl
        rw [e3]
        refine ⟨hu, ?_⟩
        rcases hi i hi' with ⟨h2, h3⟩ | ⟨id, ro', h2, h3⟩
        · have h2' : os.getD i (ETy.d (.own kk)) = none := h2
          rw [h2'] at hr
          have hu0 := RelV.v_inv (c := c) (x := .slice none 0 0) hr
          rw [hu0, h3]
          exact .rd (fun _ _ => undef) rfl (Nat.le_refl _) (fun h => absurd h (by omega)) (fun i j h => absurd h (by omega))
        have h2' : os.getD i (ETy.d (.own kk)) = some (id, (xss.getD i []).length) := h2
        rw [h2'] at hr
        have := lent_slice hh he hs h3 (off := 0) (m := (xss.getD i []).length) (by omega) (u := u) hr
        simpa using this
      refine .rd (fun i j => cells.getD (l.off + i + j) undef) hl (by omega) (fun hp => ?_) (fun i j hi' hj => ?_)
      · obtain ⟨rfl, rfl⟩ := ha (by omega)
        refine ⟨l.blk, l.off, cells, T, (0, 0), by simp, hsl, fun i j hi' hj => ?_⟩
        have hj0 : j = 0 := by simpa [ETy.sz] using hj
        subst hj0
        simp only [ETy.sz, Nat.mul_one, Nat.add_zero]
        exact (cell i hi').1
      · have hj0 : j = 0 := by simpa [ETy.sz] using hj
        subst hj0
        exact (cell i hi').2
  | @box ro cs cs' sz k j hk hl hc ih =>
    intro u hu
    cases hu with
    | @ptr _ _ _ _ l hlo =>
      obtain ⟨l2, hl2, cells, T, h1, h2, h3⟩ := hh.box k _ hk rfl
      rw [hlo] at hl2; cases hl2
      have hsl := hs k _ l hk rfl hlo
      rw [h1] at hsl
      have key : ∀ i, i < cs.length → cells[l.off + i]? = some (cells.getD (l.off + i) undef) ∧ RelV c (cs.getD i .junk) (cells.getD (l.off + i) undef) := fun i hi => by
        obtain ⟨u, hu, hr⟩ := h3 i hi
        have e3 : cells.getD (l.off + i) undef = u := by
          simp only [Array.getD_eq_getD_getElem?]
          rw [hu]; rfl
        rw [e3]; exact ⟨hu, hr⟩
      have := RelV.rp (c := c') (cs := cs') (j := j) (b := l.blk) (o := l.off) (fun i => cells.getD (l.off + i) undef) hsl (fun i hi => (key i (by omega)).1) (fun i hi => ih i (by omega) (key i (by omega)).2)
      simpa using this
  | agg hl h ih => intro u hu; cases hu with | agg h1 h2 => exact .agg (hl.trans h1) (fun i hi => ih i (by omega) (h2 i (by omega)))
  | nil e =>
    intro u hu; cases hu
    exact .rd (fun _ _ => undef) rfl (Nat.le_refl _) (fun h => absurd h (by omega)) (fun i j h => absurd h (by omega))
  | tr h k ih => intro u hu; exact k ▸ ih hu
theorem NoRdW.unsealed {c : Ctx} {w : World} {l : Loc} : ∀ {Z : ABox}, Z.live = true → NoRdW Z → RelB c w l Z → c.sealed l.blk = none
  | .dead, h, _, _ => by cases h
  | .box ro cs, _, h2, hB => by
    obtain ⟨cells, T, g1, g2, _⟩ := hB
    rw [h2.1] at g2
    exact g2
  | .row ro e xs, _, h2, hB => by
    obtain ⟨cells, T, g1, g2, _⟩ := hB
    rw [h2.1] at g2
    exact g2
  | .map kk es, _, _, hB => hB.2
  | .iter m s l, _, _, hB => hB.2
  | .tab _ _, _, h, _ => h.elim
/-- A CALL TO WHICH ALL IS LENT: the callee sees its caller's memory sealed. -/
theorem AC.lentE {ι : Type} {F : ι → AVal} {N : ι → List ABox} {Φ : ι → Prop} {f : FuncId} {args args' : List AVal} {H : List ABox} (ha : LentL H args args') (hX : ∀ x, Φ x → NoRd (F x)) (hnew : ∀ x, Φ x → ∀ Z ∈ N x, NoRdW Z)
    (h : AC P f args' (killAll H) (fun r H' => ∃ x, Φ x ∧ r = F x ∧ H' = killAll H ++ N x)) : AC P f args H (fun r H' => ∃ x, Φ x ∧ r = F x ∧ H' = H ++ N x) := by
  refine ⟨h.1, fun c vs w hv hh => ?_⟩
  let isK : Nat → Prop := fun b => (∃ k Z l, H[k]? = some Z ∧ Z.live = true ∧ c.loc k = some l ∧ l.blk = b) ∧ c.sealed b = none
  have decK : ∀ b, Decidable (isK b) := fun b => Classical.propDecidable _
  let c' : Ctx := { c with sealed := fun b => @ite _ (isK b) (decK b) (w.heap[b]?) (c.sealed b) }
  have sK : ∀ b, isK b → c'.sealed b = w.heap[b]? := fun b hb => if_pos hb
  have sN : ∀ b, ¬ isK b → c'.sealed b = c.sealed b := fun b hb => if_neg hb
  have he : Ext c c' := ⟨⟨rfl, rfl, rfl, fun b o ho => by
    by_cases hb : isK b
    · rw [hb.2] at ho; cases ho
    · rw [sN b hb]; exact ho⟩, fun _ _ h => h⟩
  -- every live box's block is sealed now, and holds what it holds
  have hs : ∀ k Z l, H[k]? = some Z → Z.live = true → c.loc k = some l → c'.sealed l.blk = w.heap[l.blk]? := fun k Z l hk hZ hl => by
    by_cases hb : isK l.blk
    · exact sK _ hb
    · rw [sN _ hb]
      cases hc : c.sealed l.blk with
      | none => exact absurd ⟨⟨k, Z, l, hk, hZ, hl, rfl⟩, hc⟩ hb
      | some o => exact (hh.sealed _ _ hc).symm
  have hsome : ∀ k Z l, H[k]? = some Z → Z.live = true → c.loc k = some l → ∃ o, w.heap[l.blk]? = some o := fun k Z l hk hZ hl => by
    obtain ⟨l', hl', hB⟩ := hh.box k Z hk hZ
    rw [hl] at hl'; cases hl'
    exact ⟨_, Array.getElem?_eq_getElem (hB.blk_lt hZ)⟩
  have hh' : RelH c' (killAll H) w := by
    refine ⟨hh.os, hh.tape, hh.output, fun b o ho => ?_, fun k hk => hh.dom k (by rwa [killAll_length] at hk), fun k Z hk hZ => ?_, ?_⟩
    · by_cases hb : isK b
      · rw [sK b hb] at ho; exact ho
      · rw [sN b hb] at ho; exact hh.sealed b o ho
    · rw [killAll_get hk] at hZ; cases hZ
    · intro k k' l l' Z Z' hk hZ hk' hZ' hl hl' hb
      rw [killAll_get hk] at hZ; cases hZ
  obtain ⟨hal, hag⟩ := ha.spec
  have hv' : RelCs c' args' vs := ⟨hv.1.trans hal.symm, fun i hi => lent_rel hh he hs (hag i (by omega)) (hv.2 i (by omega))⟩
  refine (h.2 c' vs w hv' hh').mono ?_
  rintro e w' ⟨c2, r, v, H', he2, rfl, hr, hh2, x, hx, rfl, rfl⟩
  let c3 : Ctx := { c2 with sealed := fun b => @ite _ (isK b) (decK b) none (c2.sealed b) }
  have tK : ∀ b, isK b → c3.sealed b = none := fun b hb => if_pos hb
  have tN : ∀ b, ¬ isK b → c3.sealed b = c2.sealed b := fun b hb => if_neg hb
  have he3 : Ext c c3 := ⟨⟨he2.os, he2.tape, he2.output, fun b o ho => by
    by_cases hb : isK b
    · rw [hb.2] at ho; cases ho
    · rw [tN b hb]; exact he2.sealed b o (he.sealed b o ho)⟩, fun k l hl => he2.loc k l hl⟩
  have lowloc : ∀ (k : Nat) (Z : ABox) (l : Loc), H[k]? = some Z → Z.live = true → c2.loc k = some l → c.loc k = some l := fun k Z l hk hZ hl => by
    obtain ⟨l', hl', _⟩ := hh.box k Z hk hZ
    have := he2.loc k l' hl'
    rw [hl] at this; cases this; exact hl'
  have kept : ∀ (k : Nat) (Z : ABox) (l : Loc), H[k]? = some Z → Z.live = true → c.loc k = some l → w'.heap[l.blk]? = w.heap[l.blk]? ∧ c2.sealed l.blk ≠ none ∧ c3.sealed l.blk = c.sealed l.blk := fun k Z l hk hZ hl => by
    obtain ⟨o, ho⟩ := hsome k Z l hk hZ hl
    have h1 := hs k Z l hk hZ hl
    rw [ho] at h1
    have h2 := he2.sealed _ _ h1
    refine ⟨by rw [hh2.sealed _ _ h2, ho], by rw [h2]; simp, ?_⟩
    by_cases hb : isK l.blk
    · rw [tK _ hb, hb.2]
    · rw [tN _ hb, h2]
      rw [sN _ hb] at h1
      exact h1.symm
  have split : ∀ (k : Nat) (Z : ABox), (H ++ N x)[k]? = some Z → Z.live = true → H[k]? = some Z ∨ ((killAll H ++ N x)[k]? = some Z ∧ NoRdW Z) := fun k Z hk hZ => by
    rcases Nat.lt_or_ge k H.length with h1 | h1
    · rw [List.getElem?_append_left h1] at hk
      exact .inl hk
    · rw [List.getElem?_append_right h1] at hk
      exact .inr ⟨by rw [List.getElem?_append_right (by rw [killAll_length]; exact h1), killAll_length]; exact hk, hnew x hx Z (List.mem_of_getElem? hk)⟩
  have nk : ∀ (Z : ABox) (l : Loc), Z.live = true → NoRdW Z → RelB c2 w' l Z → ¬ isK l.blk := fun Z l hZ hw hB hb => by
    obtain ⟨⟨k, Y, l', h1, h2, h3, h4⟩, _⟩ := hb
    have := (kept k Y l' h1 h2 h3).2.1
    rw [h4] at this
    exact this (hw.unsealed hZ hB)
  refine ⟨c3, _, v, _, he3, rfl, (hX x hx).move (c := c2) (c' := c3) rfl hr, ⟨hh2.os, hh2.tape, hh2.output, fun b o ho => ?_, fun k hk => ?_, fun k Z hk hZ => ?_, ?_⟩, x, hx, rfl, rfl⟩
  · by_cases hb : isK b
    · rw [tK b hb] at ho; cases ho
    · rw [tN b hb] at ho; exact hh2.sealed b o ho
  · exact hh2.dom k (by simpa [killAll_length] using hk)
  · rcases split k Z hk hZ with h1 | ⟨h1, h2⟩
    · obtain ⟨l, hl, hB⟩ := hh.box k Z h1 hZ
      obtain ⟨g1, g2, g3⟩ := kept k Z l h1 hZ hl
      exact ⟨l, he3.loc k l hl, hB.carry he3 (fun _ => g1) (fun _ => g3)⟩
    · obtain ⟨l, hl, hB⟩ := hh2.box k Z h1 hZ
      exact ⟨l, hl, hB.move (c := c2) (c' := c3) h2.b rfl (fun _ => tN _ (nk Z l hZ h2 hB))⟩
  · intro k k' l l' Z Z' hk hZ hk' hZ' hl hl' hb
    have apart : ∀ (k k' : Nat) (Z Z' : ABox) (l l' : Loc), H[k]? = some Z → Z.live = true → (killAll H ++ N x)[k']? = some Z' → NoRdW Z' → Z'.live = true → c3.loc k = some l → c3.loc k' = some l' → l.blk ≠ l'.blk := fun k k' Z Z' l l' h1 hZ h1' h2' hZ' hl hl' hb => by
      obtain ⟨m, hm, hB⟩ := hh2.box k' Z' h1' hZ'
      have hm' : c2.loc k' = some l' := hl'
      rw [hm'] at hm; cases hm
      have := (kept k Z l h1 hZ (lowloc k Z l h1 hZ hl)).2.1
      rw [hb] at this
      exact this (h2'.unsealed hZ' hB)
    rcases split k Z hk hZ with h1 | ⟨h1, h2⟩ <;> rcases split k' Z' hk' hZ' with h1' | ⟨h1', h2'⟩
    · exact hh.inj k k' l l' Z Z' h1 hZ h1' hZ' (lowloc k Z l h1 hZ hl) (lowloc k' Z' l' h1' hZ' hl') hb
    · exact absurd hb (apart k k' Z Z' l l' h1 hZ h1' h2' hZ' hl hl')
    · exact absurd hb.symm (apart k' k Z' Z l' l h1' hZ' h1 h2 hZ hl' hl)
    · exact hh2.inj k k' l l' Z Z' h1 hZ h1' hZ' hl hl' hb
theorem AC.lentN {f : FuncId} {args args' : List AVal} {H new : List ABox} {X X' : AVal} (hXX : X = X') (ha : LentL H args args') (hX : NoRd X) (hnew : ∀ Z ∈ new, NoRdW Z)
    (h : AC P f args' (killAll H) (fun r H' => r = X ∧ H' = killAll H ++ new)) : AC P f args H (fun r H' => r = X' ∧ H' = H ++ new) := by
  subst hXX
  refine (AC.lentE (ι := Unit) (F := fun _ => X) (N := fun _ => new) (Φ := fun _ => True) ha (fun _ _ => hX) (fun _ _ => hnew) (h.mono fun r H' ⟨e1, e2⟩ => ⟨(), trivial, e1, e2⟩)).mono ?_
  rintro r H' ⟨_, _, e1, e2⟩
  exact ⟨e1, e2⟩
theorem AC.lent0 {f : FuncId} {args args' : List AVal} {H : List ABox} {X : AVal} (ha : LentL H args args') (hX : NoRd X)
    (h : AC P f args' (killAll H) (fun r H' => r = X ∧ H' = killAll H)) : AC P f args H (fun r H' => r = X ∧ H' = H) := by
  have := AC.lentN (new := []) rfl ha hX (fun Z hZ => by simp at hZ) (h.mono fun r H' ⟨e1, e2⟩ => ⟨e1, by rw [e2, List.append_nil]⟩)
  exact this.mono fun r H' ⟨e1, e2⟩ => ⟨e1, by rw [e2, List.append_nil]⟩
theorem RelB.carryB {n : Nat} {c c' : Ctx} {w : World} {l : Loc} {X : ABox} (h : RelB c w l X) (he : ExtB n c c') (hlt : BoxLt n X) (hs : X.live = true → c'.sealed l.blk = c.sealed l.blk) : RelB c' w l X := by
  cases X with
  | dead => trivial
  | box ro cs =>
    obtain ⟨cells, T, h1, h2, h3⟩ := h
    refine ⟨cells, T, h1, ?_, fun j hj => ?_⟩
    · unfold modeOk at *; rw [hs rfl]; exact h2
    · obtain ⟨u, hu, hr⟩ := h3 j hj; exact ⟨u, hu, hr.extB he (hlt j hj)⟩
  | row ro e xs =>
    obtain ⟨cells, T, h1, h2, h3, h4, h5⟩ := h
    refine ⟨cells, T, h1, ?_, h3, h4, fun i j hi hj => ?_⟩
    · unfold modeOk at *; rw [hs rfl]; exact h2
    · obtain ⟨u, hu, hr⟩ := h5 i j hi hj; exact ⟨u, hu, hr.extB he (hlt i j hi hj)⟩
  | map kk es => exact ⟨h.1, (hs rfl).trans h.2⟩
  | iter m since seen =>
    obtain ⟨⟨lm, h1, h2⟩, h3⟩ := h
    exact ⟨⟨lm, he.loc _ _ hlt h1, h2⟩, (hs rfl).trans h3⟩
  | tab g o => exact ⟨h.1, (hs rfl).trans h.2.1, h.2.2⟩
theorem LentV.boxL {b l : List ABox} {ro : Bool} {cs cs' : List AVal} {sz j q : Nat} (h : l[j]? = some (.box ro cs)) (hc : LentL (b ++ l) cs cs') : LentV (b ++ l) (.ptr sz (b.length + j) 0 q) (.rp cs' q) :=
  .box (app_get.trans h) hc.spec.1 hc.spec.2
theorem LentV.rowL {b l : List ABox} {ro : Bool} {e : ETy} {xs : List e.T} {sz j m : Nat} (hs : sz = e.sz) (h : l[j]? = some (.row ro e xs)) (hm : m = xs.length) : LentV (b ++ l) (.sl sz (b.length + j) 0 m) (.rd e xs) := by
  subst hs; subst hm
  have := LentV.sl (H := b ++ l) (off := 0) (m := xs.length) (app_get.trans h) (by omega)
  simpa using this
theorem LentV.aggL {H : List ABox} {cs cs' : List AVal} (hc : LentL H cs cs') : LentV H (.agg cs) (.agg cs') := .agg hc.spec.1 hc.spec.2
end Go.Eng
end
section
set_option linter.unusedSimpArgs false
set_option linter.unusedVariables false
namespace Go.Eng
variable {P : Program} {E : Env}
/-- The orders of a region, as a tree. -/
inductive Tr where
  | leaf
  | node (cs : List (Nat × Tr))
theorem RelSt.drew {n : Nat} {c : Ctx} {st : St} {a : Act} {w : World} (h : RelSt n c st a w) : RelSt n c st a { w with drawn := w.drawn + 1 } := ⟨h.defers, h.size, h.slots, h.heap.drew, h.hn⟩
section
variable {n : Nat} {Q : Exit → St → Prop} {st : St}
end
/-! ### Maps, said for a walk -/
theorem vNext_step {N : Nat} {s : List (Nat × AVal)} {b l : List ABox} {j m since : Nat} {seen : List Nat} {kk : KK} {es : List (kk.T × Value)} {k : AVal → List ABox → List ABox → Prop}
    (hi : l[j]? = some (.iter (b.length + m) since seen)) (hm : l[m]? = some (.map kk es)) (hs : since = es.length)
    (h1 : ∀ (q : Nat) (e : kk.T × Value), es[q]? = some e → ¬ q ∈ seen → k (.tup [.v (.bool true), kk.av e.1, .ofVal e.2]) b (l.set j (.iter (b.length + m) since (seen ++ [q]))))
    (h2 : (∀ q, q < es.length → q ∈ seen) → k (.tup [.v (.bool false)]) b l) : vNext ⟨N, s, b, l⟩ (.it (b.length + j)) k := by
  have g1 : St.get ⟨N, s, b, l⟩ (b.length + j) = .iter (b.length + m) since seen := by rw [get_loc]; simp [List.getD, hi]
  have g2 : St.get ⟨N, s, b, l⟩ (b.length + m) = .map kk es := by rw [get_loc]; simp [List.getD, hm]
  unfold vNext
  simp only [g1, g2]
  refine ⟨hs, fun q e hq hns => ?_, h2⟩
  rw [setBox_loc]
  exact h1 q e hq hns
theorem entry_last {l : List Nat} {q : Nat} : (l ++ [q]).getLast? = some q := by simp
end Go.Eng
end
section
set_option linter.unusedSimpArgs false
set_option linter.unusedVariables false
namespace Go.Eng
variable {P : Program} {E : Env}
/-- The same boxes, parted otherwise. -/
theorem Weak.rebase {n N : Nat} {s : List (Nat × AVal)} {b l b' l' : List ABox} (h : b ++ l = b' ++ l') (hn : n ≤ b.length → n ≤ b'.length) : Weak n ⟨N, s, b, l⟩ ⟨N, s, b', l'⟩ := fun c a w hr =>
  ⟨c, .refl n c, hn hr.le, hr.rel.defers, hr.rel.size, hr.rel.slots, by
    show RelH c (b' ++ l') w
    rw [← h]; exact hr.rel.heap, rfl⟩
/-- The first of the state's own boxes is put below. -/
theorem Weak.grow {n N : Nat} {s : List (Nat × AVal)} {b l : List ABox} {X : ABox} : Weak n ⟨N, s, b, X :: l⟩ ⟨N, s, b ++ [X], l⟩ :=
  Weak.rebase (by simp) (fun h => by rw [List.length_append]; omega)
theorem FinOk.same {n N : Nat} {s : List (Nat × AVal)} {b l : List ABox} {r : AVal} : FinOk n ⟨N, s, b, l⟩ r r (b ++ l) := fun c v w hn hv hh => ⟨c, .refl _ c, hv, hh⟩
theorem BoxLt.mono {n m : Nat} {X : ABox} (h : BoxLt n X) (hm : n ≤ m) : BoxLt m X := by
  cases X with
  | dead => trivial
  | box ro cs => exact fun i hi => (h i hi).mono hm
  | row ro e xs => exact fun i j hi hj => (h i j hi hj).mono hm
  | map kk es => trivial
  | iter m' a b => exact Nat.lt_of_lt_of_le h hm
  | tab g o => trivial
theorem BaseLt.mono {n m : Nat} {H : List ABox} (h : BaseLt n H) (hm : n ≤ m) : BaseLt m H := fun k hk => (h k hk).mono hm
theorem BaseLt.app {n : Nat} {H L : List ABox} (h : BaseLt n H) (hL : ∀ X ∈ L, BoxLt n X) : BaseLt n (H ++ L) := by
  intro k hk
  simp only [List.getD]
  by_cases g : k < H.length
  · rw [List.getElem?_append_left g]; exact h k g
  · have hk' : k - H.length < L.length := by simp at hk; omega
    rw [List.getElem?_append_right (by omega), List.getElem?_eq_getElem hk']
    exact hL _ (List.getElem_mem hk')
theorem boxLt_plain {n : Nat} {ro : Bool} {e : ETy} (h : e.plain = true) (xs : List e.T) : BoxLt n (.row ro e xs) := fun i j hi hj => ETy.enc_ids e h _ j hj
/-- Lists of numbers, each in a box of its own. -/
def rowsB (xs : List (List Int)) : List ABox := xs.map fun x => .row false (.int .i64) x
theorem rowsB_len (xs : List (List Int)) : (rowsB xs).length = xs.length := by simp [rowsB]
theorem rowsB_snoc (xs : List (List Int)) (x : List Int) : rowsB (xs ++ [x]) = rowsB xs ++ [.row false (.int .i64) x] := by simp [rowsB]
theorem rowsB_get {xs : List (List Int)} {i : Nat} (h : i < xs.length) : (rowsB xs)[i]? = some (.row false (.int .i64) (xs.getD i [])) := by
  simp [rowsB, List.getD, h]
theorem rowsB_lt (n : Nat) (xs : List (List Int)) : ∀ X ∈ rowsB xs, BoxLt n X := fun X hX => by
  obtain ⟨x, _, rfl⟩ := List.mem_map.1 hX
  exact boxLt_plain rfl x
theorem BaseLt.rows {H : List ABox} (h : BaseLt H.length H) (xs : List (List Int)) : BaseLt (H ++ rowsB xs).length (H ++ rowsB xs) :=
  (h.mono (by simp)).app (rowsB_lt _ xs)
/-- Their numbers, from g on, and their lengths. -/
def refs : Nat → List (List Int) → List (Option (Nat × Nat))
  | _, [] => []
  | g, x :: r => some (g, x.length) :: refs (g + 1) r
theorem refs_len : ∀ (g : Nat) (xs : List (List Int)), (refs g xs).length = xs.length
  | _, [] => rfl
  | g, x :: r => by simp [refs, refs_len (g + 1) r]
theorem refs_get : ∀ {g : Nat} {xs : List (List Int)} {i : Nat}, i < xs.length → (refs g xs).getD i none = some (g + i, (xs.getD i []).length)
  | g, [], i, h => by simp at h
  | g, x :: r, 0, h => rfl
  | g, x :: r, i + 1, h => by
    have := refs_get (g := g + 1) (xs := r) (i := i) (by simpa using h)
    show (refs (g + 1) r).getD i none = _
    rw [this]
    show some (g + 1 + i, (r.getD i []).length) = some (g + (i + 1), (r.getD i []).length)
    rw [show g + 1 + i = g + (i + 1) by omega]
theorem refs_snoc : ∀ (g : Nat) (xs : List (List Int)) (x : List Int), refs g (xs ++ [x]) = refs g xs ++ [some (g + xs.length, x.length)]
  | g, [], x => rfl
  | g, y :: r, x => by
    show some (g, y.length) :: refs (g + 1) (r ++ [x]) = some (g, y.length) :: (refs (g + 1) r ++ [some (g + (r.length + 1), x.length)])
    rw [refs_snoc (g + 1) r x, show g + 1 + r.length = g + (r.length + 1) by omega]
/-- All numbers in it are below m. -/
def OwnLt (m : Nat) (os : List (Option (Nat × Nat))) : Prop := ∀ i, i < os.length → ∀ p, os.getD i none = some p → p.1 < m
theorem refs_lt {g m : Nat} {xs : List (List Int)} (h : g + xs.length ≤ m) : OwnLt m (refs g xs) := fun i hi p hp => by
  rw [refs_len] at hi
  rw [refs_get hi] at hp
  cases hp
  show g + i < m
  omega
theorem own_ids {m : Nat} {k : IntKind} {o : Option (Nat × Nat)} (h : ∀ p, o = some p → p.1 < m) (j : Nat) (hj : j < 1) : IdsLt m (((ETy.own k).enc o).getD j .junk) := by
  obtain rfl : j = 0 := by omega
  rcases o with _ | p
  · exact .v _
  · exact .sl (h p rfl)
theorem boxLt_own {m : Nat} {ro : Bool} {k : IntKind} {os : List (Option (Nat × Nat))} (h : OwnLt m os) : BoxLt m (.row ro (.own k) os) := fun i j hi hj => own_ids (fun p hp => h i hi p hp) j hj
theorem RenB.ownKeep {m : Nat} {idx : List Nat} {ro : Bool} {k : IntKind} {os : List (Option (Nat × Nat))} (h : OwnLt m os) : RenB m idx (.row ro (.own k) os) (.row ro (.own k) os) := .low (boxLt_own h)
theorem RenB.ownSnoc {m : Nat} {idx : List Nat} {ro : Bool} {k : IntKind} {os : List (Option (Nat × Nat))} {i j len : Nat} (h : OwnLt m os) (hi : idx[j]? = some i) :
    RenB m idx (.row ro (.own k) (os ++ [some (m + j, len)])) (.row ro (.own k) (os ++ [some (m + i, len)])) := by
  refine .row (by simp) (fun q p hq hp => ?_)
  obtain rfl : p = 0 := by have : p < 1 := hp; omega
  by_cases g : q < os.length
  · have e : ∀ y : Option (Nat × Nat), (os ++ [y]).getD q none = os.getD q none := fun y => by simp only [List.getD]; rw [List.getElem?_append_left g]
    show RenV m idx (((ETy.own k).enc ((os ++ [some (m + j, len)]).getD q none)).getD 0 .junk) (((ETy.own k).enc ((os ++ [some (m + i, len)]).getD q none)).getD 0 .junk)
    rw [e, e]
    exact .low (own_ids (fun p hp => h q g p hp) 0 Nat.one_pos)
  · have e : ∀ y : Option (Nat × Nat), (os ++ [y]).getD q none = y := fun y => by
      have : q = os.length := by simp at hq; omega
      subst this
      simp [List.getD]
    show RenV m idx (((ETy.own k).enc ((os ++ [some (m + j, len)]).getD q none)).getD 0 .junk) (((ETy.own k).enc ((os ++ [some (m + i, len)]).getD q none)).getD 0 .junk)
    rw [e, e]
    exact .sl hi
/-- Own rows of own rows, lent. -/
theorem LentV.refs {pre post : List ABox} {ro : Bool} {xs : List (List Int)} {k g : Nat} {H : List ABox} (hk : H[k]? = some (.row ro (.own .i64) (Go.Eng.refs g xs))) (hg : ∀ i, i < xs.length → H[g + i]? = some (.row false (.int .i64) (xs.getD i []))) {m : Nat} (hm : m = xs.length) :
    LentV H (.sl 1 k 0 m) (.rd (.sli .i64) xs) :=
  .own hk (by rw [hm, refs_len]) (refs_len g xs).symm (fun i hi => by
    rw [refs_len] at hi
    exact .inr ⟨g + i, false, refs_get hi, hg i hi⟩)
/-- Where the boxes of rows stand. -/
theorem lk_row {H pre post : List ABox} {xs : List (List Int)} {i : Nat} (h : i < xs.length) : (H ++ (pre ++ (rowsB xs ++ post)))[H.length + pre.length + i]? = some (.row false (.int .i64) (xs.getD i [])) := by
  rw [← List.append_assoc, List.getElem?_append_right (by simp <;> omega), List.length_append, Nat.add_sub_cancel_left, List.getElem?_append_left (by rw [rowsB_len]; exact h), rowsB_get h]
theorem lk_own {H pre post : List ABox} {xs : List (List Int)} {X : ABox} : (H ++ (pre ++ (rowsB xs ++ (X :: post))))[H.length + (pre.length + xs.length)]? = some X := by
  rw [← List.append_assoc, ← List.append_assoc, List.getElem?_append_right (by simp [rowsB_len] <;> omega)]
  rw [show H.length + (pre.length + xs.length) - (H ++ pre ++ rowsB xs).length = 0 by simp [rowsB_len] <;> omega]
  rfl
/-- What a decided condition comes to. -/
theorem rsB : (∀ h : Decidable True, @decide True h = true) ∧ (∀ h : Decidable False, @decide False h = false) ∧ (∀ p : Prop, (p ∧ True) = p) ∧ (∀ p : Prop, (True ∧ p) = p) ∧ (∀ p : Prop, (p ∧ False) = False) ∧ (∀ p : Prop, (False ∧ p) = False) ∧ ((¬ True) = False) ∧ ((¬ False) = True) :=
  ⟨fun h => decide_true h, fun h => decide_false h, fun p => and_true p, fun p => true_and p, fun p => and_false p, fun p => false_and p, not_true_eq_false, not_false_eq_true⟩
end Go.Eng
end

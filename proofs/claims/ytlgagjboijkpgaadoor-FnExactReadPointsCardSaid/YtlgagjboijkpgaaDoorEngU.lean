/- The engine, part U: a drawn region that leaves the boxes as they are, one operation after another. -/
import Derived.Test.YtlgagjboijkpgaaDoorEngT
set_option linter.unusedSimpArgs false
set_option linter.unusedVariables false
namespace Go.Eng
variable {P : Program} {E : Env}

/-- A call whose result is said outright. -/
def vcC (P : Program) (f : FuncId) (args : List AVal) (st : St) (k : AVal → List ABox → List ABox → Prop) : Prop :=
  ∃ r b l, AC P f args (st.base ++ st.loc) (fun r' H' => r' = r ∧ H' = b ++ l) ∧ b.length = st.base.length ∧ k r b l
def vcF (P : Program) (E : Env) (op : Op) (st : St) (k : AVal → List ABox → List ABox → Prop) : Prop :=
  match op with
  | .call ⟨.value f, args, _⟩ =>
    match st.ev f with
    | .fn g cap => vcC P g (args.toList.map st.ev ++ cap) st k
    | _ => False
  | .next _ _ => False
  | op => vcOp P E op st k
theorem vcF_E {op : Op} {st : St} {k : AVal → List ABox → List ABox → Prop} (h : vcF P E op st k) : vcE P E op st k := by
  cases op with
  | call c =>
    obtain ⟨callee, args, ts⟩ := c
    cases callee <;> exact h
  | _ => exact h
theorem vcC_pure {f : FuncId} {args : List AVal} {N : Nat} {s : List (Nat × AVal)} {b l : List ABox} {x : AVal} {k : AVal → List ABox → List ABox → Prop}
    (h : AC P f args (b ++ l) (fun r H' => r = x ∧ H' = b ++ l)) (hk : k x b l) : vcC P f args ⟨N, s, b, l⟩ k := ⟨x, b, l, h, rfl, hk⟩

def vcD (P : Program) (E : Env) (ops : List Oper) (N : Nat) (b l : List ABox) : List Oper → List (Nat × AVal) → (List (Nat × AVal) → Prop) → Prop
  | [], sl, K => K sl
  | o :: rest, sl, K => dstOk N o.dst ∧ vGuard ops o.guard ⟨N, sl, b, l⟩
      (bif isPure o.op then vcOp P E o.op ⟨N, sl, b, l⟩ (fun r _ _ => vcD P E ops N b l rest (putS sl o.dst r) K)
       else vcF P E o.op ⟨N, sl, b, l⟩ (fun r b' l' => (b' = b ∧ l' = l) ∧ vcD P E ops N b l rest (putS sl o.dst r) K))
      (vcD P E ops N b l rest (putS sl o.dst (.v undef)) K)
theorem vcD_nil {ops : List Oper} {N : Nat} {b l : List ABox} {sl : List (Nat × AVal)} {K : List (Nat × AVal) → Prop} (h : K sl) : vcD P E ops N b l [] sl K := h
theorem vcD_cons {ops : List Oper} {N : Nat} {b l : List ABox} {o : Oper} {rest : List Oper} {sl : List (Nat × AVal)} {K : List (Nat × AVal) → Prop}
    (h : ∀ K' : List (Nat × AVal) → Prop, (∀ sl', vcD P E ops N b l rest sl' K → K' sl') → dstOk N o.dst ∧ vGuard ops o.guard ⟨N, sl, b, l⟩
      (bif isPure o.op then vcOp P E o.op ⟨N, sl, b, l⟩ (fun r _ _ => K' (putS sl o.dst r))
       else vcF P E o.op ⟨N, sl, b, l⟩ (fun r b' l' => (b' = b ∧ l' = l) ∧ K' (putS sl o.dst r)))
      (K' (putS sl o.dst (.v undef)))) : vcD P E ops N b l (o :: rest) sl K := h _ (fun _ h => h)

theorem eff_nil (i : Nat) : effI [] i = false := rfl
theorem cnt_nil : ∀ i, cntE [] i = 0
  | 0 => rfl
  | i + 1 => by simp [cntE, cnt_nil i, eff_nil]

theorem vcD_lex {ops : List Oper} {n : Nat} {st : St} {K : List (Nat × AVal) → Prop} : ∀ (rest : List Oper) (i : Nat) {R : Nat → AVal} {W : Nat → Bool} {Hp : Nat → Heap2} {past : List Heap2} {pend : List (Nat × (Heap2 → Prop))}
    (_ : ∀ k, rest[k]? = ops[i + k]?) (_ : i + rest.length = ops.length) (_ : LexTo P E ops [] n st i R W Hp (st.base, st.loc) past pend) (_ : vcD P E ops st.N st.base st.loc rest (lexSl ops R st.slots i) K),
    ∃ R W Hp, Lex P E ops [] n st R W Hp ∧ K (lexSl ops R st.slots ops.length) ∧ Hp (cntE [] ops.length) = (st.base, st.loc)
  | [], i, R, W, Hp, past, pend, hr, hlen, hL, hv => by
    have hi : i = ops.length := by simpa using hlen
    subst hi
    have lt : ∀ {j : Nat} {o : Oper}, ops[j]? = some o → j < ops.length := fun h => (List.getElem?_eq_some_iff.1 h).1
    exact ⟨R, W, Hp, ⟨hL.h0, hL.hb, fun j o ho => hL.dstN j o (lt ho) ho, fun j o ho => hL.guard j o (lt ho) ho, fun j o ho => hL.skip j o (lt ho) ho, fun j o ho => hL.eff j o (lt ho) ho, fun j o ho => hL.pure j o (lt ho) ho⟩, hv, hL.cur⟩
  | o :: rest, i, R, W, Hp, past, pend, hr, hlen, hL, hv => by
    have ho : ops[i]? = some o := by have := hr 0; simpa using this.symm
    have hr' : ∀ k, rest[k]? = ops[(i + 1) + k]? := fun k => by
      have := hr (k + 1)
      rw [show i + 1 + k = i + (k + 1) by omega, ← this]; simp
    have hlen' : i + 1 + rest.length = ops.length := by simp at hlen; omega
    have next : ∀ (r : AVal), lexSl ops (fun j => if j = i then r else R j) st.slots (i + 1) = putS (lexSl ops R st.slots i) o.dst r := fun r => by
      show (match (ops[i]?).bind (·.dst) with | none => lexSl ops _ st.slots i | some t => (t, if i = i then r else R i) :: lexSl ops _ st.slots i) = _
      rw [lexSl_upd i (Nat.le_refl i), ho, if_pos rfl]
      show (match o.dst with | none => _ | some t => _) = _
      unfold putS
      cases o.dst <;> rfl
    have hn : st.base.length = n := by have := hL.hb _ (Nat.le_refl _); rwa [hL.cur] at this
    unfold vcD at hv
    obtain ⟨hd, hv⟩ := hv
    obtain ⟨w, hg, hrun, hskip⟩ := vGuard_ex hv
    have nf : ∀ {p : Prop}, effI [] i = true → p := fun e => by rw [eff_nil] at e; cases e
    cases w with
    | false =>
      have hs := hskip rfl
      have h2 := hL.step ho (r := .v undef) (w := false) (h' := (st.base, st.loc)) (pend' := pend) hd hg (fun _ => ⟨rfl, rfl⟩) (fun e => (by cases e)) (fun _ => rfl) (fun e => (by cases e)) hn nf (fun _ h => h)
      exact vcD_lex rest (i + 1) hr' hlen' h2 (by rw [next]; exact hs)
    | true =>
      have hs := hrun rfl
      cases hip : isPure o.op with
      | true =>
        rw [hip] at hs
        have hs' : vcOp P E o.op ⟨st.N, lexSl ops R st.slots i, st.base, st.loc⟩ (fun r _ _ => vcD P E ops st.N st.base st.loc rest (putS (lexSl ops R st.slots i) o.dst r) K) := hs
        obtain ⟨r, hk, hall⟩ := vcOp_pure hip hs'
        have h2 := hL.step ho (r := r) (w := true) (h' := (st.base, st.loc)) (pend' := pend) hd hg (fun e => (by cases e)) (fun _ => nf) (fun _ => rfl) (fun _ _ => ⟨fun m _ _ => hall (Hp m), .inl hall⟩) hn nf (fun _ h => h)
        exact vcD_lex rest (i + 1) hr' hlen' h2 (by rw [next]; exact hk)
      | false =>
        rw [hip] at hs
        obtain ⟨r, b, l, ⟨⟨hb, hl⟩, hk⟩, hok⟩ := vcE_ex (vcF_E hs)
        subst hb; subst hl
        have h2 := hL.step ho (r := r) (w := true) (h' := (st.base, st.loc)) (pend' := (hiI [] i, fun h' => OpOK P E o.op ⟨st.N, lexSl ops R st.slots i, h'.1, h'.2⟩ r h') :: pend) hd hg (fun e => (by cases e)) (fun _ => nf) (fun _ => rfl)
          (fun _ _ => ⟨fun m hlo hm => by
            rw [cnt_nil] at hm
            have : m = cntE [] i := by rw [cnt_nil]; omega
            subst this; rw [hL.cur]; exact hok, .inr (.inl ⟨_, List.mem_cons_self, fun _ h => h⟩)⟩) hn nf (fun _ h => List.mem_cons_of_mem _ h)
        exact vcD_lex rest (i + 1) hr' hlen' h2 (by rw [next]; exact hk)

section
variable {n : Nat} {Q : Exit → St → Prop} {st : St}
/-- A REGION THAT DRAWS ITS ORDER and leaves the boxes as they are. -/
theorem AW.d0 (hE : EnvOk P E) (hm : P.follows .mixedOrders = true) (hn : st.base.length = n) {id : Nat} {l : List Oper} (hchk : drawChk l [] = true)
    (h : ∀ K : List (Nat × AVal) → Prop, (∀ sl, Q .normal ⟨st.N, sl, st.base, st.loc⟩ → K sl) → vcD P E l st.N st.base st.loc l st.slots K) : AW P n (.region id l.toArray true) Q st := by
  intro c a w hst
  have h0 := h _ (fun _ h => h)
  have hL0 : LexTo P E l [] n st 0 (fun _ => .junk) (fun _ => false) (fun _ => (st.base, st.loc)) (st.base, st.loc) [] [] :=
    ⟨rfl, rfl, rfl, fun q h => (by simp [cntE] at h), fun _ _ => hn, fun j _ h => absurd h (by omega), fun j _ h => absurd h (by omega), fun j _ h => absurd h (by omega), fun j _ h => absurd h (by omega), fun j _ h => absurd h (by omega), fun j _ h => absurd h (by omega)⟩
  obtain ⟨R, W, Hp, hL, hK, hH⟩ := vcD_lex l 0 (fun k => by rw [Nat.zero_add]) (by simp) hL0 h0
  refine wp_region_any hm ?_
  have hD := drawChk_ok hchk
  have hI : DInv l [] c st R Hp (Array.replicate l.toArray.size false) a { w with drawn := w.drawn + 1 } := by
    have hf : ∀ i, (Array.replicate l.toArray.size false).getD i false = false := fun i => by
      simp only [Array.getD, Array.size_replicate]
      split <;> simp
    refine ⟨by simp, fun i o j _ hl => (by rw [hf] at hl; cases hl), c, 0, .refl c, fun i _ _ => (by rw [hf]; simp), Nat.zero_le _, hst.defers, hst.size, ?_, fun t => ?_⟩
    · rw [hL.h0]; exact hst.heap.drew
    · have := hst.slots t
      cases hw : writer l t with
      | none => exact this
      | some j => simp only [hf, Bool.false_eq_true, if_false]; exact this
  refine dinv_any hE hD hL (fun c' a' w' he hr => ⟨c', _, he.toB n, hr, ?_⟩) _ _ _ _ hI (by simp)
  rw [hH]; exact hK
theorem AW.d0reg (hE : EnvOk P E) (hm : P.follows .mixedOrders = true) (hn : st.base.length = n) {id : Nat} {l : List Oper} {y : Code} (hchk : drawChk l [] = true)
    (h : ∀ K : List (Nat × AVal) → Prop, (∀ sl, AW P n y Q ⟨st.N, sl, st.base, st.loc⟩ → K sl) → vcD P E l st.N st.base st.loc l st.slots K) : AW P n (.seq (.region id l.toArray true) y) Q st :=
  AW.seq (AW.d0 hE hm hn hchk h)
end
end Go.Eng

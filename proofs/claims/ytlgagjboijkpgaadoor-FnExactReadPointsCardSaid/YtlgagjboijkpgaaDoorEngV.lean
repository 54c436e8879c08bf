/- The engine, part V: a drawn region that writes, one operation after another. -/
import Derived.Test.YtlgagjboijkpgaaDoorEngU
set_option linter.unusedSimpArgs false
set_option linter.unusedVariables false
namespace Go.Eng
variable {P : Program} {E : Env}

theorem vcDr_nil {ops : List Oper} {info : List (Bool × Nat × Nat)} {n N i : Nat} {sl : List (Nat × AVal)} {h : Heap2} {past : List Heap2} {pend : List (Nat × (Heap2 → Prop))} {K : List (Nat × AVal) → Heap2 → Prop}
    (hk : K sl h) : vcDr P E ops info n N i [] sl h past pend K := hk
def vcG (P : Program) (E : Env) (op : Op) (st : St) (k : AVal → List ABox → List ABox → Prop) : Prop := vcF P E op st k
theorem vGuard_mono {ops : List Oper} {g : Option (Nat × Bool)} {st : St} {p p' q : Prop} (hp : p → p') (hg : vGuard ops g st p q) : vGuard ops g st p' q := by
  cases g with
  | none => exact hp hg
  | some jw =>
    obtain ⟨j, want⟩ := jw
    simp only [vGuard] at hg ⊢
    cases ht : (ops[j]?).bind (·.dst) with
    | none => rw [ht] at hg; exact hg
    | some t =>
      rw [ht] at hg
      refine ⟨hg.1, ?_⟩
      have h2 := hg.2
      revert h2
      generalize lk st.slots t = v
      intro h2
      cases v with
      | v x => cases x <;> first | exact ⟨fun e => hp (h2.1 e), h2.2⟩ | exact h2
      | _ => exact h2
theorem vcDr_cons {ops : List Oper} {info : List (Bool × Nat × Nat)} {n N i : Nat} {o : Oper} {rest : List Oper} {sl : List (Nat × AVal)} {b l : List ABox} {past : List Heap2} {pend : List (Nat × (Heap2 → Prop))} {K : List (Nat × AVal) → Heap2 → Prop}
    (h : ∀ K' : List (Nat × AVal) → List ABox → List ABox → List Heap2 → List (Nat × (Heap2 → Prop)) → Prop, (∀ sl' b' l' past' pend', vcDr P E ops info n N (i + 1) rest sl' (b', l') past' pend' K → K' sl' b' l' past' pend') →
      dstOk N o.dst ∧ vGuard ops o.guard ⟨N, sl, b, l⟩
      (bif isPure o.op then effI info i = false ∧ vcOp P E o.op ⟨N, sl, b, l⟩ (fun r _ _ => K' (putS sl o.dst r) b l past pend)
       else bif effI info i then vcF P E o.op ⟨N, sl, b, l⟩ (fun r b' l' => b'.length = n ∧ pendOk pend (past.length + 1) (b', l') ∧ K' (putS sl o.dst r) b' l' ((b, l) :: past) pend)
       else vcF P E o.op ⟨N, sl, b, l⟩ (fun r b' l' => (b' = b ∧ l' = l) ∧ pastOk past (loI info i) (fun h' => OpOK P E o.op ⟨N, sl, h'.1, h'.2⟩ r h') ∧
          K' (putS sl o.dst r) b l past (if hiI info i ≤ past.length then pend else (hiI info i, fun h' => OpOK P E o.op ⟨N, sl, h'.1, h'.2⟩ r h') :: pend)))
      (bif effI info i then pendOk pend (past.length + 1) (b, l) ∧ K' (putS sl o.dst (.v undef)) b l ((b, l) :: past) pend
       else K' (putS sl o.dst (.v undef)) b l past pend)) : vcDr P E ops info n N i (o :: rest) sl (b, l) past pend K := by
  have h0 := h (fun sl' b' l' past' pend' => vcDr P E ops info n N (i + 1) rest sl' (b', l') past' pend' K) (fun _ _ _ _ _ h => h)
  unfold vcDr
  refine ⟨h0.1, ?_⟩
  refine vGuard_mono ?_ h0.2
  intro h1
  cases hp : isPure o.op with
  | true => rw [hp] at h1; exact h1
  | false =>
    rw [hp] at h1
    cases he : effI info i with
    | true => rw [he] at h1; exact vcF_E h1
    | false => rw [he] at h1; exact vcF_E h1
end Go.Eng

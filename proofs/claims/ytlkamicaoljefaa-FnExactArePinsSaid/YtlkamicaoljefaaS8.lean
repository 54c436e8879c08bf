import Derived.Test.YtlkamicaoljefaaS7
set_option linter.unusedSimpArgs false
set_option linter.unusedVariables false
namespace Go.Eng
variable {P : Program} {E : Env}
theorem vcL_ok2 (hE : EnvOk P E) (ops tail : List Oper) : ∀ (rest : List Oper) {n : Nat} {c : Ctx} {st : St} {a : Act} {w : World} (_ : RelSt n c st a w) {K : St → Prop} (_ : vcL P E ops rest st K)
    {Q : Exit → Act → World → Prop} (_ : ∀ c' st' a' w', Ext c c' → RelSt n c' st' a' w' → K st' → wpList P ops.toArray Q tail a' w'), wpList P ops.toArray Q (rest ++ tail) a w
  | [], n, c, st, a, w, hst, K, hk, Q, hQ => hQ c st a w (.refl c) hst hk
  | o :: rest, n, c, st, a, w, hst, K, hk, Q, hQ => by
    have run : (dstOk st.N o.dst ∧ vcOp P E o.op st (fun r b l => vcL P E ops rest (({ st with base := b, loc := l } : St).put o.dst r) K)) → o.wp P a w (wpList P ops.toArray Q (rest ++ tail)) Q := by
      rintro ⟨hd, hop⟩
      refine vcOp_ok hE hst hop fun c' v w' r b l he hr hh hb hkk => ?_
      exact vcL_ok2 hE ops tail rest (hst.put he o.dst (dstOk_lt hd) hr hb hh) hkk (fun c2 st2 a2 w2 he2 => hQ c2 st2 a2 w2 (he.trans he2))
    have skip : (dstOk st.N o.dst ∧ vcL P E ops rest (st.put o.dst (.v undef)) K) → wpList P ops.toArray Q (rest ++ tail) (a.put o.dst undef) w := by
      rintro ⟨hd, hop⟩
      exact vcL_ok2 hE ops tail rest (hst.put (.refl c) o.dst (dstOk_lt hd) (.v _) hst.hn hst.heap) hop hQ
    unfold vcL vGuard at hk
    show wpList P ops.toArray Q (o :: (rest ++ tail)) a w
    unfold wpList
    split at hk
    · rename_i hg
      rw [if_pos (by simp [Region.wanted, hg])]
      exact .inl (run hk)
    · rename_i j want hg
      split at hk
      · exact hk.elim
      · rename_i t ht
        obtain ⟨hlt, hk⟩ := hk
        have hy := yielded_of hst ht hlt
        have hv := hst.slots t
        split at hk
        · rename_i b hb
          rw [hb] at hv
          have hv' := hv.v_inv
          rw [hv'] at hy
          by_cases hbw : b = want
          · rw [if_pos (by simp [Region.wanted, hg, hy, hbw])]
            exact .inl (run (hk.1 hbw))
          · rw [if_neg (by simp [Region.wanted, hg, hy, hbw])]
            exact skip (hk.2 hbw)
        · rename_i vs hb
          rw [hb] at hv
          have hv' := hv.v_inv
          rw [hv'] at hy
          rw [if_neg (by simp [Region.wanted, hg, hy])]
          exact skip hk
        · exact hk.elim
/-- What a region's last operation does, said of the model itself. -/
def LastOk (P : Program) (o : Oper) (n : Nat) (Q : Exit → St → Prop) (st : St) : Prop :=
  ∀ c a w, RelSt n c st a w → ∃ v w' c' st', (execOp a.eval o).run P w = .ok (.value v) w' ∧ ExtB n c c' ∧ RelSt n c' st' (a.put o.dst v) w' ∧ Q .normal st'
theorem AW.regionLast (hE : EnvOk P E) {n : Nat} {Q : Exit → St → Prop} {st : St} {id : Nat} {l : List Oper} {o : Oper} (hg : o.guard = none)
    (h : ∀ K : St → Prop, (∀ st', LastOk P o n Q st' → K st') → vcL P E (l ++ [o]) l st K) : AW P n (.region id (l ++ [o]).toArray false) Q st := by
  intro c a w hst
  refine wp_region_lit (vcL_ok2 hE (l ++ [o]) [o] l hst (h _ (fun _ h => h)) ?_)
  intro c' st' a' w' he hr hk
  obtain ⟨v, w2, c2, st2, h1, h2, h3, h4⟩ := hk c' a' w' hr
  unfold wpList
  rw [if_pos (by simp [Region.wanted, hg])]
  refine .inl (wp_value h1 ?_)
  unfold wpList
  exact ⟨c2, st2, (he.toB n).trans h2, h3, h4⟩
end Go.Eng

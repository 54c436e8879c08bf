import Derived.Test.YtlkamicaoljefaaS4
set_option linter.unusedSimpArgs false
set_option linter.unusedVariables false
namespace Go.Eng
variable {P : Program} {E : Env}
theorem run_eqNil {T et : TypeId} (hT : P.underlying T = some (.slice et)) (a : Option Addr) (n cp : Nat) (w : World) (xo yo : Operand) :
    (do eqGuard .eql T xo yo (.slice a n cp) (.slice none 0 0); binOp .eql T (.slice a n cp) (.slice none 0 0) : Sem Value).run P w = .ok (.bool a.isNone) w := by
  have heq : (Op.equal T (.slice a n cp) (.slice none 0 0)).run P w = .ok a.isNone w := by
    unfold Op.equal Op.maxDepth
    rw [show (10000 : Nat) = 9999 + 1 from rfl]
    unfold Op.equalIn
    simp only [Sem.run_bind, run_underlying hT, Result.andThen_ok]
    cases a <;> rfl
  have hg : (eqGuard .eql T xo yo (.slice a n cp) (.slice none 0 0)).run P w = .ok () w := by
    cases a <;> rfl
  rw [Sem.run_bind, hg]
  simp only [Result.andThen_ok, binOp, Sem.run_bind, heq, Sem.run_pure]
/-- A region that moves a list and asks whether it is nil. -/
theorem AW.regionNil (hE : EnvOk P E) {n : Nat} {Q : Exit → St → Prop} {st : St} {id : Nat} {o1 o2 : Oper} {e : ETy} {xs : List e.T} {T et : TypeId} {t d1 d2 : Nat} (hT : P.underlying T = some (.slice et))
    (h1 : o1.op = .move (.tmp t)) (g1 : o1.guard = none) (k1 : o1.dst = some d1) (h2 : o2.op = .binOp .eql T (.tmp d1) (.const (.slice none 0 0)) T) (g2 : o2.guard = none) (k2 : o2.dst = some d2)
    (hx : lk st.slots t = .rd e xs) (hd1 : d1 < st.N) (hd2 : d2 < st.N)
    (hf : Q .normal ((st.put (some d1) (.rd e xs)).put (some d2) (.v (.bool false)))) (ht : xs = [] → Q .normal ((st.put (some d1) (.rd e xs)).put (some d2) (.v (.bool true)))) : AW P n (.region id [o1, o2].toArray false) Q st := by
  intro c a w hst
  refine wp_region_lit ?_
  have hv := hst.slots t
  rw [hx] at hv
  unfold wpList
  rw [if_pos (by simp [Region.wanted, g1])]
  refine .inl (wp_value (v := a.tmps.getD t undef) (w' := w) ?_ ?_)
  · simp [execOp, h1, Act.eval]
  have hst1 : RelSt n c (st.put o1.dst (.rd e xs)) (a.put o1.dst (a.tmps.getD t undef)) w := hst.put (.refl c) o1.dst (by rw [k1]; intro q hq; cases hq; exact hd1) hv hst.hn hst.heap
  rw [k1] at hst1 ⊢
  unfold wpList
  rw [if_pos (by simp [Region.wanted, g2])]
  have hv1 := hst1.slots d1
  have hl : lk (st.put (some d1) (.rd e xs)).slots d1 = .rd e xs := by simp [St.put, lk]
  rw [hl] at hv1
  generalize hu : (a.put (some d1) (a.tmps.getD t undef)).tmps.getD d1 undef = u at hv1
  cases hv1 with
  | @rd _ _ ad cp nn g hln hcp ha hr =>
    have hrun := run_eqNil hT ad nn cp w (.tmp d1) (.const (.slice none 0 0))
    refine .inl (wp_value (v := .bool ad.isNone) (w' := w) ?_ ?_)
    · have e1 : (a.put (some d1) (a.tmps.getD t undef)).eval (.tmp d1) = .slice ad nn cp := hu
      have e2 : (a.put (some d1) (a.tmps.getD t undef)).eval (.const (.slice none 0 0)) = .slice none 0 0 := rfl
      simp only [execOp, h2, e1, e2]
      rw [Sem.run_bind, hrun]; rfl
    · have hst2 : ∀ b, RelSt n c ((st.put (some d1) (.rd e xs)).put (some d2) (.v (.bool b))) ((a.put (some d1) (a.tmps.getD t undef)).put (some d2) (.bool b)) w := fun b => hst1.put (.refl c) (some d2) (by intro q hq; cases hq; exact hd2) (.v _) hst1.hn hst1.heap
      rw [k2]
      unfold wpList
      cases ad with
      | none =>
        have : xs = [] := by
          rcases Nat.eq_zero_or_pos nn with h | h
          · rw [h] at hln; exact List.length_eq_zero_iff.1 hln
          · obtain ⟨b, o, cells, T', fr, he, _⟩ := ha h
            cases he
        exact ⟨c, _, .refl n c, hst2 true, ht this⟩
      | some A => exact ⟨c, _, .refl n c, hst2 false, hf⟩
end Go.Eng

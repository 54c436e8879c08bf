/- The engine, part I: regions, code, functions. -/
import Derived.Test.YtlgagjboijkpgaaDoorEngH
set_option linter.unusedSimpArgs false
set_option linter.unusedVariables false
namespace Go.Eng
variable {P : Program} {E : Env}

def dstOk (N : Nat) : Option Nat → Prop
  | none => True
  | some t => t < N

/-- Does an operation run? Its guard's temporary says so. -/
def vGuard (ops : List Oper) (g : Option (Nat × Bool)) (st : St) (run skip : Prop) : Prop :=
  match g with
  | none => run
  | some (j, want) =>
    match (ops[j]?).bind (·.dst) with
    | none => False
    | some t => t < st.N ∧
      match lk st.slots t with
      | .v (.bool b) => (b = want → run) ∧ (b ≠ want → skip)
      | .v (.tuple _) => skip
      | _ => False

/-- THE OPERATIONS OF A REGION, ONE AFTER ANOTHER. -/
def vcL (P : Program) (E : Env) (ops : List Oper) : List Oper → St → (St → Prop) → Prop
  | [], st, K => K st
  | o :: rest, st, K =>
    vGuard ops o.guard st
      (dstOk st.N o.dst ∧ vcOp P E o.op st (fun r b l => vcL P E ops rest (({ st with base := b, loc := l } : St).put o.dst r) K))
      (dstOk st.N o.dst ∧ vcL P E ops rest (st.put o.dst (.v undef)) K)

theorem dstOk_lt {N : Nat} {d : Option Nat} (h : dstOk N d) : ∀ t, d = some t → t < N := by
  intro t ht; subst ht; exact h

theorem yielded_of {n : Nat} {c : Ctx} {st : St} {a : Act} {w : World} (hst : RelSt n c st a w) {ops : List Oper} {j t : Nat} (ht : (ops[j]?).bind (·.dst) = some t) (hlt : t < st.N) :
    yielded ops.toArray a.tmps j = (match a.tmps.getD t undef with | .bool b => some b | _ => none) := by
  unfold yielded
  rw [List.getElem?_toArray, ht]
  have hs : t < a.tmps.size := by rw [hst.size]; exact hlt
  have h1 : a.tmps[t]? = some (a.tmps.getD t undef) := by simp [hs]
  simp only [Option.bind_some, h1]
  cases a.tmps.getD t undef <;> rfl

theorem vcL_ok (hE : EnvOk P E) (ops : List Oper) : ∀ (rest : List Oper) {n : Nat} {c : Ctx} {st : St} {a : Act} {w : World} (_ : RelSt n c st a w) {K : St → Prop} (_ : vcL P E ops rest st K)
    {Q : Exit → Act → World → Prop} (_ : ∀ c' st' a' w', Ext c c' → RelSt n c' st' a' w' → K st' → Q .normal a' w'), wpList P ops.toArray Q rest a w
  | [], n, c, st, a, w, hst, K, hk, Q, hQ => hQ c st a w (.refl c) hst hk
  | o :: rest, n, c, st, a, w, hst, K, hk, Q, hQ => by
    have run : (dstOk st.N o.dst ∧ vcOp P E o.op st (fun r b l => vcL P E ops rest (({ st with base := b, loc := l } : St).put o.dst r) K)) → o.wp P a w (wpList P ops.toArray Q rest) Q := by
      rintro ⟨hd, hop⟩
      refine vcOp_ok hE hst hop fun c' v w' r b l he hr hh hb hkk => ?_
      exact vcL_ok hE ops rest (hst.put he o.dst (dstOk_lt hd) hr hb hh) hkk (fun c2 st2 a2 w2 he2 => hQ c2 st2 a2 w2 (he.trans he2))
    have skip : (dstOk st.N o.dst ∧ vcL P E ops rest (st.put o.dst (.v undef)) K) → wpList P ops.toArray Q rest (a.put o.dst undef) w := by
      rintro ⟨hd, hop⟩
      exact vcL_ok hE ops rest (hst.put (.refl c) o.dst (dstOk_lt hd) (.v _) hst.hn hst.heap) hop hQ
    unfold vcL vGuard at hk
    unfold wpList
    split at hk
    · rename_i hg
      rw [if_pos (by simp [Region.wanted, hg])]
      exact .inl (run hk)
    · rename_i j want hg
      split at hk
      · exact hk.elim
      · rename_i t ht
        obtain ⟨hlt, hk⟩ := hk
        have hy := yielded_of hst ht hlt
        have hv := hst.slots t
        split at hk
        · rename_i b hb
          rw [hb] at hv
          have hv' := hv.v_inv
          rw [hv'] at hy
          by_cases hbw : b = want
          · rw [if_pos (by simp [Region.wanted, hg, hy, hbw])]
            exact .inl (run (hk.1 hbw))
          · rw [if_neg (by simp [Region.wanted, hg, hy, hbw])]
            exact skip (hk.2 hbw)
        · rename_i vs hb
          rw [hb] at hv
          have hv' := hv.v_inv
          rw [hv'] at hy
          rw [if_neg (by simp [Region.wanted, hg, hy])]
          exact skip hk
        · exact hk.elim

/-! ### Code -/
/-- THE GOAL: from a state, this code leads to a state (and a way out of the code) that meets Q. -/
def AW (P : Program) (n : Nat) (code : Code) (Q : Exit → St → Prop) (st : St) : Prop :=
  ∀ c a w, RelSt n c st a w → code.wp P (fun e a' w' => ∃ c' st', ExtB n c c' ∧ RelSt n c' st' a' w' ∧ Q e st') a w

def thenQ (K : St → Prop) (Q : Exit → St → Prop) : Exit → St → Prop
  | .normal, st => K st
  | e, st => Q e st
def blockQ (id : Nat) (Q : Exit → St → Prop) : Exit → St → Prop
  | .exit id', st => if id' = id then Q .normal st else Q (.exit id') st
  | e, st => Q e st

section
variable {n : Nat} {Q : Exit → St → Prop} {st : St}

theorem AW.skip (h : Q .normal st) : AW P n .skip Q st := fun c a w hst => wp_skip ⟨c, st, .refl n c, hst, h⟩
theorem AW.exit {id : Nat} (h : Q (.exit id) st) : AW P n (.exit id) Q st := fun c a w hst => wp_exit ⟨c, st, .refl n c, hst, h⟩
theorem AW.ret (h : Q .ret st) : AW P n .ret Q st := fun c a w hst => wp_ret ⟨c, st, .refl n c, hst, h⟩

theorem AW.mono {code : Code} {Q' : Exit → St → Prop} (h : AW P n code Q st) (hq : ∀ e st', Q e st' → Q' e st') : AW P n code Q' st :=
  fun c a w hst => wp_mono (h c a w hst) fun e a' w' ⟨c', st', h1, h2, h3⟩ => ⟨c', st', h1, h2, hq e st' h3⟩

theorem AW.seq {x y : Code} (h : AW P n x (thenQ (fun st' => AW P n y Q st') Q) st) : AW P n (.seq x y) Q st := by
  intro c a w hst
  refine wp_seq (wp_mono (h c a w hst) ?_)
  rintro e a' w' ⟨c', st', he, hr, hq⟩
  cases e with
  | normal => exact wp_mono (hq c' a' w' hr) fun e2 a2 w2 ⟨c2, st2, h1, h2, h3⟩ => ⟨c2, st2, he.trans h1, h2, h3⟩
  | exit id => exact ⟨c', st', he, hr, hq⟩
  | goto l => exact ⟨c', st', he, hr, hq⟩
  | ret => exact ⟨c', st', he, hr, hq⟩
  | panic ch => exact ⟨c', st', he, hr, hq⟩
  | outgrown => exact ⟨c', st', he, hr, hq⟩

/-- A region in the text's order: what follows stands behind a variable while the operations are gone through. -/
theorem AW.region (hE : EnvOk P E) {id : Nat} {l : List Oper} (h : ∀ K : St → Prop, (∀ st', Q .normal st' → K st') → vcL P E l l st K) : AW P n (.region id l.toArray false) Q st := by
  intro c a w hst
  refine wp_region_lit (vcL_ok hE l l hst (h _ (fun _ h => h)) ?_)
  intro c' st' a' w' he hr hq
  exact ⟨c', st', he.toB n, hr, hq⟩

theorem AW.cond {x : Operand} {b : Bool} {p q : Code} (hx : st.ev x = .v (.bool b)) (ht : b = true → AW P n p Q st) (hf : b = false → AW P n q Q st) : AW P n (.cond x p q) Q st := by
  intro c a w hst
  have hv := hst.ev x
  rw [hx] at hv
  exact wp_cond_split hv.v_inv (fun h => ht h c a w hst) (fun h => hf h c a w hst)
theorem AW.cond_dec {x : Operand} {t : Prop} [Decidable t] {p q : Code} (hx : st.ev x = .v (.bool (decide t))) (ht : t → AW P n p Q st) (hf : ¬ t → AW P n q Q st) : AW P n (.cond x p q) Q st :=
  AW.cond hx (fun h => ht (of_decide_eq_true h)) (fun h => hf (of_decide_eq_false h))
theorem AW.cond_t {x : Operand} {p q : Code} (hx : st.ev x = .v (.bool true)) (ht : AW P n p Q st) : AW P n (.cond x p q) Q st :=
  AW.cond hx (fun _ => ht) (fun h => by cases h)
theorem AW.cond_f {x : Operand} {p q : Code} (hx : st.ev x = .v (.bool false)) (ht : AW P n q Q st) : AW P n (.cond x p q) Q st :=
  AW.cond hx (fun h => by cases h) (fun _ => ht)

theorem AW.block {id : Nat} {x : Code} (h : AW P n x (blockQ id Q) st) : AW P n (.block id x) Q st := by
  intro c a w hst
  refine wp_block (wp_mono (h c a w hst) ?_)
  rintro e a' w' ⟨c', st', he, hr, hq⟩
  cases e with
  | exit id' =>
    show if id' = id then _ else _
    simp only [blockQ] at hq
    by_cases hid : id' = id
    · rw [if_pos hid] at hq ⊢; exact ⟨c', st', he, hr, hq⟩
    · rw [if_neg hid] at hq ⊢; exact ⟨c', st', he, hr, hq⟩
  | normal => exact ⟨c', st', he, hr, hq⟩
  | goto l => exact ⟨c', st', he, hr, hq⟩
  | ret => exact ⟨c', st', he, hr, hq⟩
  | panic ch => exact ⟨c', st', he, hr, hq⟩
  | outgrown => exact ⟨c', st', he, hr, hq⟩

/-- A state may be said otherwise, or less of it. -/
def Weak (n : Nat) (st st2 : St) : Prop := ∀ c a w, RelSt n c st a w → ∃ c', ExtB n c c' ∧ RelSt n c' st2 a w
theorem Weak.refl (n : Nat) (st : St) : Weak n st st := fun c _ _ h => ⟨c, .refl n c, h⟩
theorem Weak.trans {st1 st2 : St} (h : Weak n st st1) (k : Weak n st1 st2) : Weak n st st2 := fun c a w hr => by
  obtain ⟨c1, h1, h2⟩ := h c a w hr
  obtain ⟨c2, h3, h4⟩ := k c1 a w h2
  exact ⟨c2, h1.trans h3, h4⟩
theorem AW.weak {code : Code} {st2 : St} (h : Weak n st st2) (k : AW P n code Q st2) : AW P n code Q st := fun c a w hr => by
  obtain ⟨c1, h1, h2⟩ := h c a w hr
  exact wp_mono (k c1 a w h2) fun e a' w' ⟨c', st', g1, g2, g3⟩ => ⟨c', st', h1.trans g1, g2, g3⟩

/-- A LOOP: a relation that holds at each round's head, indexed by whatever serves (α), and a measure that each round lowers. -/
theorem AW.loop {α : Type} (S : α → St) (I : α → Prop) (μ : α → Nat) {body : Code} (i₀ : α) (h0 : I i₀) (hw : Weak n st (S i₀))
    (round : ∀ i, I i → AW P n body (thenQ (fun st' => ∃ i', I i' ∧ μ i' < μ i ∧ Weak n st' (S i')) Q) (S i)) : AW P n (.loop body) Q st := by
  refine AW.weak hw ?_
  intro c a w hst
  intro b k cs
  have key : ∀ m i, μ i = m → I i → ∀ c1 a w, ExtB n c c1 → RelSt n c1 (S i) a w → ∃ e a' w', (∃ c' st', ExtB n c c' ∧ RelSt n c' st' a' w' ∧ Q e st') ∧
      Arrives P (lone (b.at a (.code body :: .inLoop body :: k)) cs w) b k cs e a' w' := by
    intro m
    induction m using Nat.strongRecOn with
    | _ m ih =>
      intro i hm hi c1 a w he hr
      obtain ⟨e, a₁, w₁, ⟨c2, st2, he2, hr2, hq⟩, harr⟩ := round i hi c1 a w hr b (.inLoop body :: k) cs
      cases e with
      | normal =>
        obtain ⟨i', hi', hlt, hwk⟩ := hq
        obtain ⟨c3, he3, hr3⟩ := hwk c2 a₁ w₁ hr2
        obtain ⟨e₂, a₂, w₂, hq₂, harr₂⟩ := ih (μ i') (hm ▸ hlt) i' rfl hi' c3 a₁ w₁ ((he.trans he2).trans he3) hr3
        exact ⟨e₂, a₂, w₂, hq₂, .of_steps (Steps.trans harr (.one step_inLoop)) harr₂⟩
      | exit id => exact ⟨_, a₁, w₁, ⟨c2, st2, he.trans he2, hr2, hq⟩, .pass (x := .inLoop body) rfl (fun _ _ => .inl (by simp)) harr⟩
      | goto l => exact ⟨_, a₁, w₁, ⟨c2, st2, he.trans he2, hr2, hq⟩, .pass (x := .inLoop body) rfl (fun _ _ => .inl (by simp)) harr⟩
      | ret => exact ⟨_, a₁, w₁, ⟨c2, st2, he.trans he2, hr2, hq⟩, .pass (x := .inLoop body) rfl (fun _ _ => .inl (by simp)) harr⟩
      | panic ch => exact ⟨_, a₁, w₁, ⟨c2, st2, he.trans he2, hr2, hq⟩, .pass (x := .inLoop body) rfl (fun _ _ => .inl (by simp)) harr⟩
      | outgrown => exact ⟨_, a₁, w₁, ⟨c2, st2, he.trans he2, hr2, hq⟩, .pass (x := .inLoop body) rfl (fun _ _ => .inl (by simp)) harr⟩
  obtain ⟨e, a', w', hq, harr⟩ := key _ i₀ rfl h0 c a w (.refl n c) hst
  exact ⟨e, a', w', hq, .of_steps (.one step_loop) harr⟩

end
end Go.Eng

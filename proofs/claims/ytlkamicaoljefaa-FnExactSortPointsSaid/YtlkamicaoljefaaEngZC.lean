/- The engine, part ZC: a region that draws its order, walked as a graph: what was done says what is known, whatever the order. -/
import Derived.Test.YtlkamicaoljefaaEngZ
set_option linter.unusedSimpArgs false
set_option linter.unusedVariables false
namespace Go.Eng
variable {P : Program} {E : Env}

/-- Do the sets of done operations, each with those that may come next, close up? -/
def gOk (ops : List Oper) (tab : List (List Bool × List Nat)) : Bool :=
  (tab.any fun x => x.1 == List.replicate ops.length false) && tab.all fun x => (Region.ready .any ops.toArray x.1.toArray == x.2) && x.2.all fun i => (x.1[i]? == some false) && tab.any fun y => y.1 == x.1.set i true
/-- One operation, behind a set of done ones. -/
def vcG1 (P : Program) (E : Env) (ops : List Oper) (n : Nat) (σ : List Bool → St) (m : List Bool) (i : Nat) : Prop :=
  ∀ K : St → Prop, (∀ st', Weak n st' (σ (m.set i true)) → K st') → ∃ o, ops[i]? = some o ∧ vGuard ops o.guard (σ m)
    (dstOk (σ m).N o.dst ∧ vcOp P E o.op (σ m) (fun r b l => K (({ (σ m) with base := b, loc := l } : St).put o.dst r)))
    (dstOk (σ m).N o.dst ∧ K ((σ m).put o.dst (.v undef)))
def vcGi (P : Program) (E : Env) (ops : List Oper) (n : Nat) (σ : List Bool → St) (m : List Bool) : List Nat → Prop
  | [] => True
  | i :: r => vcG1 P E ops n σ m i ∧ vcGi P E ops n σ m r
def vcGr (P : Program) (E : Env) (ops : List Oper) (n : Nat) (σ : List Bool → St) : List (List Bool × List Nat) → Prop
  | [] => True
  | x :: r => vcGi P E ops n σ x.1 x.2 ∧ vcGr P E ops n σ r
theorem vcGi_mem {ops : List Oper} {n : Nat} {σ : List Bool → St} {m : List Bool} : ∀ {is : List Nat}, vcGi P E ops n σ m is → ∀ i ∈ is, vcG1 P E ops n σ m i
  | j :: r, h, i, hi => by
    rcases List.mem_cons.1 hi with rfl | hi
    · exact h.1
    · exact vcGi_mem h.2 i hi
theorem vcGr_mem {ops : List Oper} {n : Nat} {σ : List Bool → St} : ∀ {tab : List (List Bool × List Nat)}, vcGr P E ops n σ tab → ∀ x ∈ tab, vcGi P E ops n σ x.1 x.2
  | y :: r, h, x, hx => by
    rcases List.mem_cons.1 hx with rfl | hx
    · exact h.1
    · exact vcGr_mem h.2 x hx

theorem vcGr_ok (hE : EnvOk P E) {ops : List Oper} {n : Nat} {σ : List Bool → St} {tab : List (List Bool × List Nat)} (hchk : gOk ops tab = true) (hG : vcGr P E ops n σ tab) {Q : Exit → Act → World → Prop} {c0 : Ctx}
    (hQ : ∀ m c' a' w', (m, []) ∈ tab → ExtB n c0 c' → RelSt n c' (σ m) a' w' → Q .normal a' w') :
    ∀ (f : Nat) (m : List Bool) (is : List Nat) {c : Ctx} {a : Act} {w : World}, (m, is) ∈ tab → m.count false = f → ExtB n c0 c → RelSt n c (σ m) a w → wpAny P .any ops.toArray Q f m.toArray a w
  | f, m, is, c, a, w, hm, hf, he, hst => by
    unfold gOk at hchk
    have hall := List.all_eq_true.1 (Bool.and_eq_true _ _ ▸ hchk).2 _ hm
    rw [Bool.and_eq_true] at hall
    obtain ⟨h1, h2⟩ := hall
    have h1' : Region.ready .any ops.toArray m.toArray = is := by simpa using h1
    have stepOk : ∀ i ∈ is, m[i]? = some false ∧ ∃ y ∈ tab, y.1 = m.set i true := fun i hi => by
      have := List.all_eq_true.1 h2 i hi
      rw [Bool.and_eq_true] at this
      obtain ⟨g1, g2⟩ := this
      obtain ⟨y, hy, hy2⟩ := List.any_eq_true.1 g2
      exact ⟨by simpa using g1, y, hy, by simpa using hy2⟩
    match f, hf with
    | 0, hf =>
      have hnil : is = [] := by
        cases is with
        | nil => rfl
        | cons i r =>
          have g := (stepOk i (by simp)).1
          have := count_set m i g
          omega
      subst hnil
      exact ⟨h1', hQ m c a w hm he hst⟩
    | f + 1, hf =>
      refine ⟨fun hn => ?_, fun i hi => ?_⟩
      · rw [h1'] at hn; subst hn
        exact hQ m c a w hm he hst
      · rw [h1'] at hi
        obtain ⟨g1, y, hy, hy2⟩ := stepOk i hi
        have hcnt := count_set m i g1
        obtain ⟨o, ho, hk⟩ := vcGi_mem (vcGr_mem hG _ hm) i hi (fun st' => Weak n st' (σ (m.set i true))) (fun _ h => h)
        have next : ∀ {c1 : Ctx} {a1 : Act} {w1 : World} {st1 : St}, ExtB n c0 c1 → RelSt n c1 st1 a1 w1 → Weak n st1 (σ (m.set i true)) → wpAny P .any ops.toArray Q f (m.toArray.setIfInBounds i true) a1 w1 := fun {c1 a1 w1 st1} e1 r1 hw => by
          obtain ⟨c2, e2, r2⟩ := hw _ _ _ r1
          have : m.toArray.setIfInBounds i true = (m.set i true).toArray := by simp
          rw [this]
          exact vcGr_ok hE hchk hG hQ f (m.set i true) y.2 (by rw [← hy2]; exact hy) (by omega) (e1.trans e2) r2
        have run : (dstOk (σ m).N o.dst ∧ vcOp P E o.op (σ m) (fun r b l => Weak n (({ (σ m) with base := b, loc := l } : St).put o.dst r) (σ (m.set i true)))) → o.wp P a w (wpAny P .any ops.toArray Q f (m.toArray.setIfInBounds i true)) Q := by
          rintro ⟨hd, hop⟩
          refine vcOp_ok hE hst hop fun c' v w' r b l he' hr hh hb hkk => ?_
          exact next (he.trans (he'.toB n)) (hst.put he' o.dst (dstOk_lt hd) hr hb hh) hkk
        have skip : (dstOk (σ m).N o.dst ∧ Weak n ((σ m).put o.dst (.v undef)) (σ (m.set i true))) → wpAny P .any ops.toArray Q f (m.toArray.setIfInBounds i true) (a.put o.dst undef) w := by
          rintro ⟨hd, hop⟩
          exact next he (hst.put (.refl c) o.dst (dstOk_lt hd) (.v _) hst.hn hst.heap) hop
        unfold wpOp
        rw [List.getElem?_toArray, ho]
        simp only
        unfold vGuard at hk
        split at hk
        · rename_i hg
          rw [if_pos (by simp [Region.wanted, hg])]
          exact .inl (run hk)
        · rename_i j want hg
          split at hk
          · exact hk.elim
          · rename_i t ht
            obtain ⟨hlt, hk⟩ := hk
            have hy := yielded_of hst ht hlt
            have hv := hst.slots t
            split at hk
            · rename_i b hb
              rw [hb] at hv
              have hv' := hv.v_inv
              rw [hv'] at hy
              by_cases hbw : b = want
              · rw [if_pos (by simp [Region.wanted, hg, hy, hbw])]
                exact .inl (run (hk.1 hbw))
              · rw [if_neg (by simp [Region.wanted, hg, hy, hbw])]
                exact skip (hk.2 hbw)
            · rename_i vs hb
              rw [hb] at hv
              have hv' := hv.v_inv
              rw [hv'] at hy
              rw [if_neg (by simp [Region.wanted, hg, hy])]
              exact skip hk
            · exact hk.elim

theorem RelSt.drewG {n : Nat} {c : Ctx} {st : St} {a : Act} {w : World} (h : RelSt n c st a w) : RelSt n c st a { w with drawn := w.drawn + 1 } := ⟨h.defers, h.size, h.slots, h.heap.drew, h.hn⟩
section
variable {n : Nat} {Q : Exit → St → Prop} {st : St}
/-- A region that draws its order: the sets of done operations, with what is known behind each. -/
theorem AW.dgraph (hE : EnvOk P E) (hm : P.follows .mixedOrders = true) {id : Nat} {l : List Oper} (σ : List Bool → St) (tab : List (List Bool × List Nat)) (hchk : gOk l tab = true)
    (hlast : (tab.all fun x => !x.2.isEmpty || x.1 == List.replicate l.length true) = true)
    (h0 : Weak n st (σ (List.replicate l.length false))) (hG : vcGr P E l n σ tab) (hend : Q .normal (σ (List.replicate l.length true))) : AW P n (.region id l.toArray true) Q st := by
  intro c a w hst
  refine wp_region_any hm ?_
  obtain ⟨c1, e1, r1⟩ := h0 c a _ (hst.drewG)
  have hfirst : ∃ x ∈ tab, x.1 = List.replicate l.length false := by
    have h := hchk
    unfold gOk at h
    rw [Bool.and_eq_true] at h
    obtain ⟨x, hx, hx2⟩ := List.any_eq_true.1 h.1
    exact ⟨x, hx, by simpa using hx2⟩
  obtain ⟨x, hx, hx2⟩ := hfirst
  have := vcGr_ok hE hchk hG (Q := fun e a' w' => ∃ c' st', ExtB n c c' ∧ RelSt n c' st' a' w' ∧ Q e st') (c0 := c)
    (fun m c' a' w' hm' he hr => by
      have h := List.all_eq_true.1 hlast _ hm'
      have : m = List.replicate l.length true := by simpa using h
      subst this
      exact ⟨c', _, he, hr, hend⟩) l.length x.1 x.2 hx (by rw [hx2]; simp) e1 (hx2 ▸ r1)
  rw [hx2] at this
  simpa using this
end
theorem vcGr_cons {ops : List Oper} {n : Nat} {σ : List Bool → St} {m : List Bool} {is : List Nat} {r : List (List Bool × List Nat)} (h : vcGi P E ops n σ m is) (k : vcGr P E ops n σ r) : vcGr P E ops n σ ((m, is) :: r) := ⟨h, k⟩
theorem vcGr_nil {ops : List Oper} {n : Nat} {σ : List Bool → St} : vcGr P E ops n σ [] := trivial
theorem vcGi_nil {ops : List Oper} {n : Nat} {σ : List Bool → St} {m : List Bool} : vcGi P E ops n σ m [] := trivial
/-- One operation without a guard. -/
theorem vcGi_cons {ops : List Oper} {n : Nat} {σ : List Bool → St} {m m' : List Bool} {i : Nat} {r : List Nat} {o : Oper} {st st' : St} (ho : ops[i]? = some o) (hg : o.guard = none) (hs : σ m = st) (hm : m.set i true = m') (hs' : σ m' = st')
    (h : ∀ K : St → Prop, (∀ s, Weak n s st' → K s) → dstOk st.N o.dst ∧ vcOp P E o.op st (fun r b l => K (({ st with base := b, loc := l } : St).put o.dst r))) (k : vcGi P E ops n σ m r) : vcGi P E ops n σ m (i :: r) := by
  refine ⟨fun K hK => ⟨o, ho, ?_⟩, k⟩
  subst hs; subst hm; subst hs'
  unfold vGuard
  rw [hg]
  exact h K hK
end Go.Eng

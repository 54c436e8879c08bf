/- The engine, part ZB: a region that draws its order, every order walked apart; they meet in one state. -/
import Derived.Test.YtlgagjboijkpgaaDoorEngZA
set_option linter.unusedSimpArgs false
set_option linter.unusedVariables false
namespace Go.Eng
variable {P : Program} {E : Env}

/-- The orders of a region, as a tree. -/
inductive Tr where
  | leaf
  | node (cs : List (Nat × Tr))
def trOk (ops : List Oper) : Nat → Array Bool → Tr → Bool
  | _, listed, .leaf => (Region.ready .any ops.toArray listed).isEmpty
  | 0, _, .node _ => false
  | f + 1, listed, .node cs => !cs.isEmpty && (Region.ready .any ops.toArray listed == cs.map (·.1)) && cs.all fun x => trOk ops f (listed.setIfInBounds x.1 true) x.2
def vcT (P : Program) (E : Env) (ops : List Oper) : Nat → Tr → St → (St → Prop) → Prop
  | _, .leaf, st, K => K st
  | 0, .node _, _, _ => False
  | f + 1, .node cs, st, K => ∀ x ∈ cs, ∃ o, ops[x.1]? = some o ∧ vGuard ops o.guard st
      (dstOk st.N o.dst ∧ vcOp P E o.op st (fun r b l => vcT P E ops f x.2 (({ st with base := b, loc := l } : St).put o.dst r) K))
      (dstOk st.N o.dst ∧ vcT P E ops f x.2 (st.put o.dst (.v undef)) K)

theorem vcT_ok (hE : EnvOk P E) (ops : List Oper) : ∀ (f : Nat) (t : Tr) (listed : Array Bool) {n : Nat} {c : Ctx} {st : St} {a : Act} {w : World} (_ : RelSt n c st a w) (_ : trOk ops f listed t = true) {K : St → Prop} (_ : vcT P E ops f t st K)
    {Q : Exit → Act → World → Prop} (_ : ∀ c' st' a' w', Ext c c' → RelSt n c' st' a' w' → K st' → Q .normal a' w'), wpAny P .any ops.toArray Q f listed a w
  | 0, .leaf, listed, n, c, st, a, w, hst, ht, K, hk, Q, hQ => by
    unfold trOk at ht
    exact ⟨List.isEmpty_iff.1 ht, hQ c st a w (.refl c) hst hk⟩
  | f + 1, .leaf, listed, n, c, st, a, w, hst, ht, K, hk, Q, hQ => by
    unfold trOk at ht
    have h0 := List.isEmpty_iff.1 ht
    refine ⟨fun _ => hQ c st a w (.refl c) hst hk, fun i hi => ?_⟩
    rw [h0] at hi; simp at hi
  | 0, .node _, listed, n, c, st, a, w, hst, ht, K, hk, Q, hQ => by cases ht
  | f + 1, .node cs, listed, n, c, st, a, w, hst, ht, K, hk, Q, hQ => by
    unfold trOk at ht
    rw [Bool.and_eq_true, Bool.and_eq_true] at ht
    obtain ⟨⟨h0, h1⟩, h2⟩ := ht
    have h1' : Region.ready .any ops.toArray listed = cs.map (·.1) := by simpa using h1
    refine ⟨fun hn => ?_, fun i hi => ?_⟩
    · rw [h1'] at hn
      have : cs = [] := by simpa using hn
      subst this
      cases h0
    · rw [h1'] at hi
      obtain ⟨x, hx, rfl⟩ := List.mem_map.1 hi
      have hsub := List.all_eq_true.1 h2 x hx
      obtain ⟨o, ho, hk⟩ := hk x hx
      have run : (dstOk st.N o.dst ∧ vcOp P E o.op st (fun r b l => vcT P E ops f x.2 (({ st with base := b, loc := l } : St).put o.dst r) K)) → o.wp P a w (wpAny P .any ops.toArray Q f (listed.setIfInBounds x.1 true)) Q := by
        rintro ⟨hd, hop⟩
        refine vcOp_ok hE hst hop fun c' v w' r b l he hr hh hb hkk => ?_
        exact vcT_ok hE ops f x.2 _ (hst.put he o.dst (dstOk_lt hd) hr hb hh) hsub hkk (fun c2 st2 a2 w2 he2 => hQ c2 st2 a2 w2 (he.trans he2))
      have skip : (dstOk st.N o.dst ∧ vcT P E ops f x.2 (st.put o.dst (.v undef)) K) → wpAny P .any ops.toArray Q f (listed.setIfInBounds x.1 true) (a.put o.dst undef) w := by
        rintro ⟨hd, hop⟩
        exact vcT_ok hE ops f x.2 _ (hst.put (.refl c) o.dst (dstOk_lt hd) (.v _) hst.hn hst.heap) hsub hop hQ
      unfold wpOp
      rw [List.getElem?_toArray, ho]
      simp only
      unfold vGuard at hk
      split at hk
      · rename_i hg
        rw [if_pos (by simp [Region.wanted, hg])]
        exact .inl (run hk)
      · rename_i j want hg
        split at hk
        · exact hk.elim
        · rename_i t ht
          obtain ⟨hlt, hk⟩ := hk
          have hy := yielded_of hst ht hlt
          have hv := hst.slots t
          split at hk
          · rename_i b hb
            rw [hb] at hv
            have hv' := hv.v_inv
            rw [hv'] at hy
            by_cases hbw : b = want
            · rw [if_pos (by simp [Region.wanted, hg, hy, hbw])]
              exact .inl (run (hk.1 hbw))
            · rw [if_neg (by simp [Region.wanted, hg, hy, hbw])]
              exact skip (hk.2 hbw)
          · rename_i vs hb
            rw [hb] at hv
            have hv' := hv.v_inv
            rw [hv'] at hy
            rw [if_neg (by simp [Region.wanted, hg, hy])]
            exact skip hk
          · exact hk.elim

theorem RelSt.drew {n : Nat} {c : Ctx} {st : St} {a : Act} {w : World} (h : RelSt n c st a w) : RelSt n c st a { w with drawn := w.drawn + 1 } := ⟨h.defers, h.size, h.slots, h.heap.drew, h.hn⟩
section
variable {n : Nat} {Q : Exit → St → Prop} {st : St}
theorem AW.dtree (hE : EnvOk P E) (hm : P.follows .mixedOrders = true) {id : Nat} {l : List Oper} {y : Code} (t : Tr) (S : St) (hchk : trOk l l.length (Array.replicate l.length false) t = true)
    (h : ∀ K : St → Prop, (∀ st', Weak n st' S → K st') → vcT P E l l.length t st K) (hy : AW P n y Q S) : AW P n (.seq (.region id l.toArray true) y) Q st := by
  refine AW.mid S ?_ hy
  intro c a w hst
  refine wp_region_any hm ?_
  have h0 := h (fun st' => Weak n st' S) (fun _ h => h)
  have := vcT_ok hE l l.length t (Array.replicate l.length false) hst.drew hchk h0 (Q := fun e a' w' => ∃ c' st', ExtB n c c' ∧ RelSt n c' st' a' w' ∧ midQ n S Q e st')
    (fun c' st' a' w' he hr hk => ⟨c', st', he.toB n, hr, hk⟩)
  simpa using this
theorem vcT_leaf {ops : List Oper} {f : Nat} {K : St → Prop} (h : K st) : vcT P E ops f .leaf st K := by
  cases f <;> exact h
def vcTs (P : Program) (E : Env) (ops : List Oper) (f : Nat) : List (Nat × Tr) → St → (St → Prop) → Prop
  | [], _, _ => True
  | x :: r, st, K => (∀ K' : Tr → St → Prop, (∀ t st', vcT P E ops f t st' K → K' t st') → ∃ o, ops[x.1]? = some o ∧ vGuard ops o.guard st
      (dstOk st.N o.dst ∧ vcOp P E o.op st (fun r b l => K' x.2 (({ st with base := b, loc := l } : St).put o.dst r)))
      (dstOk st.N o.dst ∧ K' x.2 (st.put o.dst (.v undef)))) ∧ vcTs P E ops f r st K
theorem vcT_node {ops : List Oper} {f : Nat} {cs : List (Nat × Tr)} {K : St → Prop} (h : vcTs P E ops f cs st K) : vcT P E ops (f + 1) (.node cs) st K := by
  unfold vcT
  induction cs with
  | nil => intro x hx; simp at hx
  | cons y r ih =>
    obtain ⟨h1, h2⟩ := h
    intro x hx
    rcases List.mem_cons.1 hx with rfl | hx
    · exact h1 (fun t st' => vcT P E ops f t st' K) (fun _ _ h => h)
    · exact ih h2 x hx
theorem vcTs_nil {ops : List Oper} {f : Nat} {K : St → Prop} : vcTs P E ops f [] st K := trivial
theorem vcTs_cons {ops : List Oper} {f i : Nat} {t : Tr} {r : List (Nat × Tr)} {o : Oper} {K : St → Prop} (ho : ops[i]? = some o)
    (h : ∀ K' : Tr → St → Prop, (∀ t st', vcT P E ops f t st' K → K' t st') → vGuard ops o.guard st
      (dstOk st.N o.dst ∧ vcOp P E o.op st (fun r b l => K' t (({ st with base := b, loc := l } : St).put o.dst r)))
      (dstOk st.N o.dst ∧ K' t (st.put o.dst (.v undef)))) (h2 : vcTs P E ops f r st K) : vcTs P E ops f ((i, t) :: r) st K :=
  ⟨fun K' hK' => ⟨o, ho, h K' hK'⟩, h2⟩
end
/-! ### Maps, said for a walk -/
theorem vNext_step {N : Nat} {s : List (Nat × AVal)} {b l : List ABox} {j m since : Nat} {seen : List Nat} {kk : KK} {es : List (kk.T × Value)} {k : AVal → List ABox → List ABox → Prop}
    (hi : l[j]? = some (.iter (b.length + m) since seen)) (hm : l[m]? = some (.map kk es)) (hs : since = es.length)
    (h1 : ∀ (q : Nat) (e : kk.T × Value), es[q]? = some e → ¬ q ∈ seen → k (.tup [.v (.bool true), kk.av e.1, .ofVal e.2]) b (l.set j (.iter (b.length + m) since (seen ++ [q]))))
    (h2 : (∀ q, q < es.length → q ∈ seen) → k (.tup [.v (.bool false)]) b l) : vNext ⟨N, s, b, l⟩ (.it (b.length + j)) k := by
  have g1 : St.get ⟨N, s, b, l⟩ (b.length + j) = .iter (b.length + m) since seen := by rw [get_loc]; simp [List.getD, hi]
  have g2 : St.get ⟨N, s, b, l⟩ (b.length + m) = .map kk es := by rw [get_loc]; simp [List.getD, hm]
  unfold vNext
  simp only [g1, g2]
  refine ⟨hs, fun q e hq hns => ?_, h2⟩
  rw [setBox_loc]
  exact h1 q e hq hns
theorem entry_last {l : List Nat} {q : Nat} : (l ++ [q]).getLast? = some q := by simp
end Go.Eng

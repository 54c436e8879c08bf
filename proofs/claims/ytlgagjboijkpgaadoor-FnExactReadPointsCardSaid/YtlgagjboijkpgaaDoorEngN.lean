/- The engine, part N: the theorem on regions that draw their order. -/
import Derived.Test.YtlgagjboijkpgaaDoorEngM
import Derived.StillTail
set_option linter.unusedSimpArgs false
set_option linter.unusedVariables false
namespace Go.Eng
variable {P : Program} {E : Env}

theorem count_set : ∀ (l : List Bool) (i : Nat), l[i]? = some false → (l.set i true).count false + 1 = l.count false
  | [], i, h => by simp at h
  | b :: l, 0, h => by simp at h; subst h; simp
  | b :: l, i + 1, h => by
    have ih := count_set l i (by simpa using h)
    simp only [List.set_cons_succ, List.count_cons]
    omega
theorem count_zero {l : List Bool} (h : l.count false = 0) (i : Nat) (hi : i < l.length) : l[i]? = some true := by
  have hn := List.count_eq_zero.1 h
  rw [List.getElem?_eq_getElem hi]
  cases hb : l[i] with
  | true => rfl
  | false => exact absurd (hb ▸ List.getElem_mem hi) hn

theorem last_eff {info : List (Bool × Nat × Nat)} : ∀ n, 0 < cntE info n → ∃ i, i < n ∧ effI info i = true ∧ cntE info i + 1 = cntE info n
  | 0, h => by simp [cntE] at h
  | n + 1, h => by
    cases he : effI info n with
    | true => exact ⟨n, by omega, he, by simp [cntE, he]⟩
    | false =>
      have hc : cntE info (n + 1) = cntE info n := by simp [cntE, he]
      rw [hc] at h ⊢
      obtain ⟨i, h1, h2, h3⟩ := last_eff n h
      exact ⟨i, by omega, h2, h3⟩

theorem mem_look_op {ops : List Oper} {o : Oper} {t : Nat} (h : Operand.tmp t ∈ o.op.operands) : t ∈ lookT ops o := by
  unfold lookT
  refine List.mem_append_left _ (List.mem_filterMap.2 ⟨.tmp t, by simpa using h, rfl⟩)
theorem mem_look_guard {ops : List Oper} {o : Oper} {j t : Nat} {b : Bool} (hg : o.guard = some (j, b)) (h : (ops[j]?).bind (·.dst) = some t) : t ∈ lookT ops o := by
  unfold lookT
  refine List.mem_append_right _ ?_
  rw [hg]
  show t ∈ ((ops[j]?).bind (·.dst)).toList
  rw [h]; simp

theorem dinv_any (hE : EnvOk P E) {ops : List Oper} {info : List (Bool × Nat × Nat)} {n : Nat} {c0 : Ctx} {st : St} {R : Nat → AVal} {W : Nat → Bool} {Hp : Nat → List ABox × List ABox}
    (hD : DrawOk ops info) (hL : Lex P E ops info n st R W Hp) {Q : Exit → Act → World → Prop}
    (hQ : ∀ c a w, Ext c0 c → RelSt n c ⟨st.N, lexSl ops R st.slots ops.length, (Hp (cntE info ops.length)).1, (Hp (cntE info ops.length)).2⟩ a w → Q .normal a w) :
    ∀ (fuel : Nat) (listed : Array Bool) (a : Act) (w : World), DInv ops info c0 st R Hp listed a w → listed.toList.count false = fuel → wpAny P .any ops.toArray Q fuel listed a w := by
  have all_q : ∀ (listed : Array Bool) (a : Act) (w : World), DInv ops info c0 st R Hp listed a w → (∀ i, i < ops.length → listed.getD i false = true) → Q .normal a w := by
    intro listed a w hI hall
    obtain ⟨c, m, h1, h2, h3, h4, h5, h6, h7⟩ := hI.ex
    have hm : m = cntE info ops.length := by
      rcases Nat.eq_zero_or_pos (cntE info ops.length) with h0 | h0
      · omega
      · obtain ⟨i, hi, he, hc⟩ := last_eff _ h0
        have := (h2 i hi he).1 (hall i hi)
        omega
    subst hm
    refine hQ c a w h1 ⟨h4, h5, fun t => ?_, h6, hL.hb _ (Nat.le_refl _)⟩
    have := h7 t
    show RelV c (lk (lexSl ops R st.slots ops.length) t) _
    rw [lk_lexSl hD]
    cases hw : writer ops t with
    | none => rw [hw] at this; exact this
    | some j =>
      obtain ⟨o, ho, _⟩ := writer_some hw
      have hj := (List.getElem?_eq_some_iff.1 ho).1
      rw [hw] at this
      simp only [hall j hj, if_true] at this
      show RelV c (if j < ops.length then R j else lk st.slots t) _
      rw [if_pos hj]; exact this
  have no_ready : ∀ (listed : Array Bool) (a : Act) (w : World), DInv ops info c0 st R Hp listed a w → Region.ready .any ops.toArray listed = [] → ∀ i, i < ops.length → listed.getD i false = true := by
    intro listed a w hI hr i
    induction i using Nat.strongRecOn with
    | _ i ih =>
      intro hi
      cases hl : listed.getD i false with
      | true => rfl
      | false =>
        have hmem : i ∈ Region.ready .any ops.toArray listed := by
          rw [mem_ready]
          refine ⟨getD_in (by rw [hI.size]; exact hi) hl, ops[i], by simp [hi], fun e he hb => ?_⟩
          have hdep : e.on ∈ deps ops[i] := List.mem_map.2 ⟨e, List.mem_filter.2 ⟨by simpa using he, by simpa using hb⟩, rfl⟩
          have hlt := hD.deps i _ _ (List.getElem?_eq_getElem hi) hdep
          exact ih e.on hlt (by omega)
        rw [hr] at hmem; cases hmem
  intro fuel
  induction fuel with
  | zero =>
    intro listed a w hI hf
    have hall : ∀ i, i < ops.length → listed.getD i false = true := fun i hi => by
      have := count_zero hf i (by rw [Array.length_toList, hI.size]; exact hi)
      have hs : i < listed.size := by rw [hI.size]; exact hi
      simp [hs] at this ⊢; exact this
    refine ⟨?_, all_q listed a w hI hall⟩
    cases hr : Region.ready .any ops.toArray listed with
    | nil => rfl
    | cons i r =>
      have hmem : i ∈ Region.ready .any ops.toArray listed := by rw [hr]; simp
      obtain ⟨h1, o, h2, _⟩ := mem_ready.1 hmem
      have hi : i < ops.length := by simpa using (Array.getElem?_eq_some_iff.1 h2).1
      have := hall i hi
      have hs : i < listed.size := by rw [hI.size]; exact hi
      simp [hs] at h1 this
      rw [h1] at this; cases this
  | succ fuel ih =>
    intro listed a w hI hf
    refine ⟨fun hr => all_q listed a w hI (no_ready listed a w hI hr), fun i hir => ?_⟩
    obtain ⟨hun, o, ho', hdeps'⟩ := mem_ready.1 hir
    have ho : ops[i]? = some o := by simpa using ho'
    have hi : i < ops.length := (List.getElem?_eq_some_iff.1 ho).1
    have his : i < listed.size := by rw [hI.size]; exact hi
    have hunf : listed.getD i false = false := getD_both hun
    have hdeps : ∀ o', ops[i]? = some o' → ∀ k ∈ deps o', listed.getD k false = true := fun o' h' k hk => by
      rw [ho] at h'; cases h'
      obtain ⟨e, he, rfl⟩ := List.mem_map.1 hk
      obtain ⟨he1, he2⟩ := List.mem_filter.1 he
      exact hdeps' e (by simpa using he1) (by simpa using he2)
    have hanc : ∀ j, Reach ops i j → listed.getD j false = true := fun j hr => reach_listed hI.closed hr hdeps
    have hdesc : ∀ j oj, ops[j]? = some oj → Reach ops j i → listed.getD j false = false := fun j oj hoj hr => by
      cases hl : listed.getD j false with
      | false => rfl
      | true =>
        have := reach_listed hI.closed hr (fun o' h' k hk => hI.closed j o' k h' hl hk)
        rw [hunf] at this; cases this
    obtain ⟨c, m, h1, h2, h3, h4, h5, h6, h7⟩ := hI.ex
    -- what the operation looks at reads as in the text's order
    have hlook : ∀ t, t ∈ lookT ops o → RelV c (lk (lexSl ops R st.slots i) t) (a.tmps.getD t undef) := fun t ht => by
      have := h7 t
      rw [lk_lexSl hD]
      cases hw : writer ops t with
      | none => rw [hw] at this; exact this
      | some j =>
        rw [hw] at this
        show RelV c (if j < i then R j else lk st.slots t) _
        obtain ⟨oj, hoj, hdj⟩ := writer_some hw
        by_cases hji : j = i
        · subst hji
          simp only [hunf, Bool.false_eq_true, if_false] at this
          rw [if_neg (by omega)]; exact this
        · have hl := hD.look j i oj o t hoj ho hji hdj ht
          rcases Nat.lt_or_ge j i with hlt | hge
          · have := hanc j (hl.1 hlt)
            rename_i this0
            simp only [this, if_true] at this0
            rw [if_pos hlt]; exact this0
          · have := hdesc j oj hoj (hl.2 (by omega))
            rename_i this0
            simp only [this, Bool.false_eq_true, if_false] at this0
            rw [if_neg (by omega)]; exact this0
    -- which heap stands
    have hlo : effI info i = false → loI info i ≤ m := fun he => by
      rcases hD.lo i hi he with h0 | ⟨j, hj, hej, hr, hle⟩
      · omega
      · have := (h2 j hj hej).1 (hanc j hr); omega
    have hhi : effI info i = false → m ≤ hiI info i := fun he => by
      rcases hD.hi i hi he with h0 | ⟨j, hj, hej, hr, hle⟩
      · omega
      · have hnl := hdesc j _ (List.getElem?_eq_getElem hj) hr
        have : ¬ cntE info j < m := fun hlt => by have := (h2 j hj hej).2 hlt; rw [hnl] at this; cases this
        omega
    have hem : effI info i = true → m = cntE info i := fun he => by
      have hge : ¬ cntE info i < m := fun hlt => by have := (h2 i hi he).2 hlt; rw [hunf] at this; cases this
      rcases Nat.eq_zero_or_pos (cntE info i) with h0 | h0
      · omega
      · obtain ⟨j, hj, hej, hc⟩ := last_eff _ h0
        have := (h2 j (by omega) hej).1 (hanc j (hD.chain i j hi he hj hej))
        omega
    -- the next relation
    have hnext : ∀ c' v w' (m' : Nat), Ext c c' → RelV c' (R i) v → RelH c' ((Hp m').1 ++ (Hp m').2) w' → (m' = if effI info i then m + 1 else m) → DInv ops info c0 st R Hp (listed.setIfInBounds i true) (a.put o.dst v) w' := by
      intro c' v w' m' he hv hh hm'
      have hcur : ∀ t, RelV c' (match writer ops t with | some j => if (listed.setIfInBounds i true).getD j false then R j else lk st.slots t | none => lk st.slots t) ((a.put o.dst v).tmps.getD t undef) := fun t => by
        have hold := h7 t
        by_cases hdt : o.dst = some t
        · have hw := writer_of hD ho hdt
          have htN : t < a.tmps.size := by rw [h5]; exact dstOk_lt (hL.dstN i o ho) t hdt
          have e1 : (a.put o.dst v).tmps.getD t undef = v := by
            rw [hdt]; show (a.tmps.setIfInBounds t v).getD t undef = v; simp [htN]
          rw [hw, e1]
          simp only [getD_set his, if_true]; exact hv
        · have e1 : (a.put o.dst v).tmps.getD t undef = a.tmps.getD t undef := by
            cases hd : o.dst with
            | none => rfl
            | some u =>
              have hne : u ≠ t := fun e => hdt (by rw [hd, e])
              show (a.tmps.setIfInBounds u v).getD t undef = _
              simp [Array.getElem?_setIfInBounds, hne]
          rw [e1]
          cases hw : writer ops t with
          | none => rw [hw] at hold; exact hold.ext he
          | some j =>
            rw [hw] at hold
            obtain ⟨oj, hoj, hdj⟩ := writer_some hw
            have hne : i ≠ j := fun e => by subst e; rw [ho] at hoj; cases hoj; exact hdt hdj
            simp only [getD_set his, if_neg hne]
            exact hold.ext he
      refine ⟨by simp [hI.size], fun j oj k hoj hl hk => ?_, c', m', h1.trans he, fun j hj hej => ?_, ?_, ?_, ?_, hh, hcur⟩
      · rw [getD_set his] at hl ⊢
        by_cases hik : i = k
        · rw [if_pos hik]
        · rw [if_neg hik]
          by_cases hij : i = j
          · subst hij; exact hdeps oj hoj k hk
          · rw [if_neg hij] at hl; exact hI.closed j oj k hoj hl hk
      · rw [getD_set his]
        by_cases hij : i = j
        · subst hij
          rw [if_pos rfl, hm', if_pos hej, hem hej]
          simp
        · rw [if_neg hij]
          cases hei : effI info i with
          | false => rw [hm', if_neg (by rw [hei]; exact Bool.false_ne_true)]; exact h2 j hj hej
          | true =>
            rw [hm', if_pos hei]
            have hmi := hem hei
            have hold := h2 j hj hej
            constructor
            · intro hl; have := hold.1 hl; omega
            · intro hlt
              rcases Nat.lt_trichotomy j i with hlt2 | heq | hgt
              · exact hanc j (hD.chain i j hi hei hlt2 hej)
              · exact absurd heq.symm hij
              · have := cntE_lt (info := info) hgt hei; omega
      · rw [hm']
        cases hei : effI info i with
        | false => simpa using h3
        | true =>
          have := cntE_lt (info := info) hi hei
          have := hem hei
          simp; omega
      · cases hd : o.dst <;> exact h4
      · cases hd : o.dst with
        | none => exact h5
        | some u => show (a.tmps.setIfInBounds u v).size = _; simpa using h5
    have hfuel : (listed.setIfInBounds i true).toList.count false = fuel := by
      have hg : listed.toList[i]? = some false := by
        rw [Array.getElem?_toList]
        simp [his] at hun ⊢; exact hun
      have := count_set listed.toList i hg
      rw [Array.toList_setIfInBounds]; omega
    -- the guard
    have hwant : Region.wanted o (yielded ops.toArray a.tmps) = W i := by
      have hg := hL.guard i o ho
      unfold guardIs at hg
      split at hg
      · rename_i hgn; simp [Region.wanted, hgn, hg]
      · rename_i j want hgs
        obtain ⟨t, ht, htN, hcase⟩ := hg
        have hrel := hlook t (mem_look_guard hgs ht)
        have hs : t < a.tmps.size := by rw [h5]; exact htN
        have hy : yielded ops.toArray a.tmps j = (match a.tmps.getD t undef with | .bool b => some b | _ => none) := by
          unfold yielded
          rw [List.getElem?_toArray, ht]
          have h1 : a.tmps[t]? = some (a.tmps.getD t undef) := by simp [hs]
          simp only [Option.bind_some, h1]
          cases a.tmps.getD t undef <;> rfl
        rcases hcase with ⟨b, hb, hw⟩ | ⟨⟨vs, hb⟩, hw⟩
        · rw [hb] at hrel
          rw [hrel.v_inv] at hy
          simp only [Region.wanted, hgs, hy, hw]
          cases b <;> cases want <;> rfl
        · rw [hb] at hrel
          rw [hrel.v_inv] at hy
          simp only [Region.wanted, hgs, hy, hw]
          rfl
    unfold wpOp
    rw [ho']
    simp only
    cases hW : W i with
    | false =>
      rw [if_neg (by rw [hwant, hW]; exact Bool.false_ne_true)]
      obtain ⟨hR, hHe⟩ := hL.skip i o ho hW
      refine ih _ _ _ (hnext c undef w (if effI info i then m + 1 else m) (.refl c) (by rw [hR]; exact .v _) ?_ rfl) hfuel
      cases hei : effI info i with
      | false => simpa using h6
      | true =>
        have := hHe hei
        have hmi := hem hei
        simp only [if_true]
        rw [hmi, this, ← hmi]; exact h6
    | true =>
      rw [if_pos (by rw [hwant, hW])]
      refine .inl ?_
      have hok : OpOK P E o.op ⟨st.N, lexSl ops R st.slots i, (Hp m).1, (Hp m).2⟩ (R i) (Hp (if effI info i then m + 1 else m)) := by
        cases hei : effI info i with
        | false => exact hL.pure i o ho hW hei m (hlo hei) (hhi hei) h3
        | true => have := hL.eff i o ho hW hei; rw [← hem hei] at this; exact this
      have hst : RelSt n c ⟨st.N, onlyS (lookT ops o) (lexSl ops R st.slots i), (Hp m).1, (Hp m).2⟩ a w := by
        refine ⟨h4, h5, fun t => ?_, h6, hL.hb m h3⟩
        by_cases ht : t ∈ lookT ops o
        · show RelV c (lk (onlyS _ _) t) _
          rw [(lk_onlyS _ _ t).1 ht]; exact hlook t ht
        · show RelV c (lk (onlyS _ _) t) _
          rw [(lk_onlyS _ _ t).2 ht]; exact .junk _
      have hok2 := vcOp_congr (P := P) (E := E) (s' := onlyS (lookT ops o) (lexSl ops R st.slots i)) (fun x hx => ev_only (fun t ht => mem_look_op (by rw [ht] at hx; exact hx))) hok
      refine vcOp_ok hE hst hok2 ?_
      rintro c' v w' r b l he hr hh hb ⟨rfl, rfl, rfl⟩
      exact ih _ _ _ (hnext c' v w' _ he hr hh rfl) hfuel

end Go.Eng

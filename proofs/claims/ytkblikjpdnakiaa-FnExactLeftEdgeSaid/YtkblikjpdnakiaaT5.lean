/- Texts of this seat that the law stands on, put together. No conditions. -/
import Derived.StillTail
import Derived.Test.YtkblikjpdnakiaaT4
section
set_option linter.unusedSimpArgs false
set_option linter.unusedVariables false
namespace Go.Eng
variable {P : Program} {E : Env}
theorem count_set : ∀ (l : List Bool) (i : Nat), l[i]? = some false → (l.set i true).count false + 1 = l.count false
  | [], i, h => by simp at h
  | b :: l, 0, h => by simp at h; subst h; simp
  | b :: l, i + 1, h => by
    have ih := count_set l i (by simpa using h)
    simp only [List.set_cons_succ, List.count_cons]
    omega
theorem count_zero {l : List Bool} (h : l.count false = 0) (i : Nat) (hi : i < l.length) : l[i]? = some true := by
  have hn := List.count_eq_zero.1 h
  rw [List.getElem?_eq_getElem hi]
  cases hb : l[i] with
  | true => rfl
  | false => exact absurd (hb ▸ List.getElem_mem hi) hn
theorem last_eff {info : List (Bool × Nat × Nat)} : ∀ n, 0 < cntE info n → ∃ i, i < n ∧ effI info i = true ∧ cntE info i + 1 = cntE info n
  | 0, h => by simp [cntE] at h
  | n + 1, h => by
    cases he : effI info n with
    | true => exact ⟨n, by omega, he, by simp [cntE, he]⟩
    | false =>
      have hc : cntE info (n + 1) = cntE info n := by simp [cntE, he]
      rw [hc] at h ⊢
      obtain ⟨i, h1, h2, h3⟩ := last_eff n h
      exact ⟨i, by omega, h2, h3⟩
theorem mem_look_op {ops : List Oper} {o : Oper} {t : Nat} (h : Operand.tmp t ∈ o.op.operands) : t ∈ lookT ops o := by
  unfold lookT
  refine List.mem_append_left _ (List.mem_filterMap.2 ⟨.tmp t, by simpa using h, rfl⟩)
theorem mem_look_guard {ops : List Oper} {o : Oper} {j t : Nat} {b : Bool} (hg : o.guard = some (j, b)) (h : (ops[j]?).bind (·.dst) = some t) : t ∈ lookT ops o := by
  unfold lookT
  refine List.mem_append_right _ ?_
  rw [hg]
  show t ∈ ((ops[j]?).bind (·.dst)).toList
  rw [h]; simp
theorem dinv_any (hE : EnvOk P E) {ops : List Oper} {info : List (Bool × Nat × Nat)} {n : Nat} {c0 : Ctx} {st : St} {R : Nat → AVal} {W : Nat → Bool} {Hp : Nat → List ABox × List ABox}
    (hD : DrawOk ops info) (hL : Lex P E ops info n st R W Hp) {Q : Exit → Act → World → Prop}
    (hQ : ∀ c a w, Ext c0 c → RelSt n c ⟨st.N, lexSl ops R st.slots ops.length, (Hp (cntE info ops.length)).1, (Hp (cntE info ops.length)).2⟩ a w → Q .normal a w) :
    ∀ (fuel : Nat) (listed : Array Bool) (a : Act) (w : World), DInv ops info c0 st R Hp listed a w → listed.toList.count false = fuel → wpAny P .any ops.toArray Q fuel listed a w := by
  have all_q : ∀ (listed : Array Bool) (a : Act) (w : World), DInv ops info c0 st R Hp listed a w → (∀ i, i < ops.length → listed.getD i false = true) → Q .normal a w := by
    intro listed a w hI hall
    obtain ⟨c, m, h1, h2, h3, h4, h5, h6, h7⟩ := hI.ex
    have hm : m = cntE info ops.length := by
      rcases Nat.eq_zero_or_pos (cntE info ops.length) with h0 | h0
      · omega
      · obtain ⟨i, hi, he, hc⟩ := last_eff _ h0
        have := (h2 i hi he).1 (hall i hi)
        omega
    subst hm
    refine hQ c a w h1 ⟨h4, h5, fun t => ?_, h6, hL.hb _ (Nat.le_refl _)⟩
    have := h7 t
    show RelV c (lk (lexSl ops R st.slots ops.length) t) _
    rw [lk_lexSl hD]
    cases hw : writer ops t with
    | none => rw [hw] at this; exact this
    | some j =>
      obtain ⟨o, ho, _⟩ := writer_some hw
      have hj := (List.getElem?_eq_some_iff.1 ho).1
      rw [hw] at this
      simp only [hall j hj, if_true] at this
      show RelV c (if j < ops.length then R j else lk st.slots t) _
      rw [if_pos hj]; exact this
  have no_ready : ∀ (listed : Array Bool) (a : Act) (w : World), DInv ops info c0 st R Hp listed a w → Region.ready .any ops.toArray listed = [] → ∀ i, i < ops.length → listed.getD i false = true := by
    intro listed a w hI hr i
    induction i using Nat.strongRecOn with
    | _ i ih =>
      intro hi
      cases hl : listed.getD i false with
      | true => rfl
      | false =>
        have hmem : i ∈ Region.ready .any ops.toArray listed := by
          rw [mem_ready]
          refine ⟨getD_in (by rw [hI.size]; exact hi) hl, ops[i], by simp [hi], fun e he hb => ?_⟩
          have hdep : e.on ∈ deps ops[i] := List.mem_map.2 ⟨e, List.mem_filter.2 ⟨by simpa using he, by simpa using hb⟩, rfl⟩
          have hlt := hD.deps i _ _ (List.getElem?_eq_getElem hi) hdep
          exact ih e.on hlt (by omega)
        rw [hr] at hmem; cases hmem
  intro fuel
  induction fuel with
  | zero =>
    intro listed a w hI hf
    have hall : ∀ i, i < ops.length → listed.getD i false = true := fun i hi => by
      have := count_zero hf i (by rw [Array.length_toList, hI.size]; exact hi)
      have hs : i < listed.size := by rw [hI.size]; exact hi
      simp [hs] at this ⊢; exact this
    refine ⟨?_, all_q listed a w hI hall⟩
    cases hr : Region.ready .any ops.toArray listed with
    | nil => rfl
    | cons i r =>
      have hmem : i ∈ Region.ready .any ops.toArray listed := by rw [hr]; simp
      obtain ⟨h1, o, h2, _⟩ := mem_ready.1 hmem
      have hi : i < ops.length := by simpa using (Array.getElem?_eq_some_iff.1 h2).1
      have := hall i hi
      have hs : i < listed.size := by rw [hI.size]; exact hi
      simp [hs] at h1 this
      rw [h1] at this; cases this
  | succ fuel ih =>
    intro listed a w hI hf
    refine ⟨fun hr => all_q listed a w hI (no_ready listed a w hI hr), fun i hir => ?_⟩
    obtain ⟨hun, o, ho', hdeps'⟩ := mem_ready.1 hir
    have ho : ops[i]? = some o := by simpa using ho'
    have hi : i < ops.length := (List.getElem?_eq_some_iff.1 ho).1
    have his : i < listed.size := by rw [hI.size]; exact hi
    have hunf : listed.getD i false = false := getD_both hun
    have hdeps : ∀ o', ops[i]? = some o' → ∀ k ∈ deps o', listed.getD k false = true := fun o' h' k hk => by
      rw [ho] at h'; cases h'
      obtain ⟨e, he, rfl⟩ := List.mem_map.1 hk
      obtain ⟨he1, he2⟩ := List.mem_filter.1 he
      exact hdeps' e (by simpa using he1) (by simpa using he2)
    have hanc : ∀ j, Reach ops i j → listed.getD j false = true := fun j hr => reach_listed hI.closed hr hdeps
    have hdesc : ∀ j oj, ops[j]? = some oj → Reach ops j i → listed.getD j false = false := fun j oj hoj hr => by
      cases hl : listed.getD j false with
      | false => rfl
      | true =>
        have := reach_listed hI.closed hr (fun o' h' k hk => hI.closed j o' k h' hl hk)
        rw [hunf] at this; cases this
    obtain ⟨c, m, h1, h2, h3, h4, h5, h6, h7⟩ := hI.ex
    -- what the operation looks at reads as in the text's order
    have hlook : ∀ t, t ∈ lookT ops o → RelV c (lk (lexSl ops R st.slots i) t) (a.tmps.getD t undef) := fun t ht => by
      have := h7 t
      rw [lk_lexSl hD]
      cases hw : writer ops t with
      | none => rw [hw] at this; exact this
      | some j =>
        rw [hw] at this
        show RelV c (if j < i then R j else lk st.slots t) _
        obtain ⟨oj, hoj, hdj⟩ := writer_some hw
        by_cases hji : j = i
        · subst hji
          simp only [hunf, Bool.false_eq_true, if_false] at this
          rw [if_neg (by omega)]; exact this
        · have hl := hD.look j i oj o t hoj ho hji hdj ht
          rcases Nat.lt_or_ge j i with hlt | hge
          · have := hanc j (hl.1 hlt)
            rename_i this0
            simp only [this, if_true] at this0
            rw [if_pos hlt]; exact this0
          · have := hdesc j oj hoj (hl.2 (by omega))
            rename_i this0
            simp only [this, Bool.false_eq_true, if_false] at this0
            rw [if_neg (by omega)]; exact this0
    -- which heap stands
    have hlo : effI info i = false → loI info i ≤ m := fun he => by
      rcases hD.lo i hi he with h0 | ⟨j, hj, hej, hr, hle⟩
      · omega
      · have := (h2 j hj hej).1 (hanc j hr); omega
    have hhi : effI info i = false → m ≤ hiI info i := fun he => by
      rcases hD.hi i hi he with h0 | ⟨j, hj, hej, hr, hle⟩
      · omega
      · have hnl := hdesc j _ (List.getElem?_eq_getElem hj) hr
        have : ¬ cntE info j < m := fun hlt => by have := (h2 j hj hej).2 hlt; rw [hnl] at this; cases this
        omega
    have hem : effI info i = true → m = cntE info i := fun he => by
      have hge : ¬ cntE info i < m := fun hlt => by have := (h2 i hi he).2 hlt; rw [hunf] at this; cases this
      rcases Nat.eq_zero_or_pos (cntE info i) with h0 | h0
      · omega
      · obtain ⟨j, hj, hej, hc⟩ := last_eff _ h0
        have := (h2 j (by omega) hej).1 (hanc j (hD.chain i j hi he hj hej))
        omega
    -- the next relation
    have hnext : ∀ c' v w' (m' : Nat), Ext c c' → RelV c' (R i) v → RelH c' ((Hp m').1 ++ (Hp m').2) w' → (m' = if effI info i then m + 1 else m) → DInv ops info c0 st R Hp (listed.setIfInBounds i true) (a.put o.dst v) w' := by
      intro c' v w' m' he hv hh hm'
      have hcur : ∀ t, RelV c' (match writer ops t with | some j => if (listed.setIfInBounds i true).getD j false then R j else lk st.slots t | none => lk st.slots t) ((a.put o.dst v).tmps.getD t undef) := fun t => by
        have hold := h7 t
        by_cases hdt : o.dst = some t
        · have hw := writer_of hD ho hdt
          have htN : t < a.tmps.size := by rw [h5]; exact dstOk_lt (hL.dstN i o ho) t hdt
          have e1 : (a.put o.dst v).tmps.getD t undef = v := by
            rw [hdt]; show (a.tmps.setIfInBounds t v).getD t undef = v; simp [htN]
          rw [hw, e1]
          simp only [getD_set his, if_true]; exact hv
        · have e1 : (a.put o.dst v).tmps.getD t undef = a.tmps.getD t undef := by
            cases hd : o.dst with
            | none => rfl
            | some u =>
              have hne : u ≠ t := fun e => hdt (by rw [hd, e])
              show (a.tmps.setIfInBounds u v).getD t undef = _
              simp [Array.getElem?_setIfInBounds, hne]
          rw [e1]
          cases hw : writer ops t with
          | none => rw [hw] at hold; exact hold.ext he
          | some j =>
            rw [hw] at hold
            obtain ⟨oj, hoj, hdj⟩ := writer_some hw
            have hne : i ≠ j := fun e => by subst e; rw [ho] at hoj; cases hoj; exact hdt hdj
            simp only [getD_set his, if_neg hne]
            exact hold.ext he
      refine ⟨by simp [hI.size], fun j oj k hoj hl hk => ?_, c', m', h1.trans he, fun j hj hej => ?_, ?_, ?_, ?_, hh, hcur⟩
      · rw [getD_set his] at hl ⊢
        by_cases hik : i = k
        · rw [if_pos hik]
        · rw [if_neg hik]
          by_cases hij : i = j
          · subst hij; exact hdeps oj hoj k hk
          · rw [if_neg hij] at hl; exact hI.closed j oj k hoj hl hk
      · rw [getD_set his]
        by_cases hij : i = j
        · subst hij
          rw [if_pos rfl, hm', if_pos hej, hem hej]
          simp
        · rw [if_neg hij]
          cases hei : effI info i with
          | false => rw [hm', if_neg (by rw [hei]; exact Bool.false_ne_true)]; exact h2 j hj hej
          | true =>
            rw [hm', if_pos hei]
            have hmi := hem hei
            have hold := h2 j hj hej
            constructor
            · intro hl; have := hold.1 hl; omega
            · intro hlt
              rcases Nat.lt_trichotomy j i with hlt2 | heq | hgt
              · exact hanc j (hD.chain i j hi hei hlt2 hej)
              · exact absurd heq.symm hij
              · have := cntE_lt (info := info) hgt hei; omega
      · rw [hm']
        cases hei : effI info i with
        | false => simpa using h3
        | true =>
          have := cntE_lt (info := info) hi hei
          have := hem hei
          simp; omega
      · cases hd : o.dst <;> exact h4
      · cases hd : o.dst with
        | none => exact h5
        | some u => show (a.tmps.setIfInBounds u v).size = _; simpa using h5
    have hfuel : (listed.setIfInBounds i true).toList.count false = fuel := by
      have hg : listed.toList[i]? = some false := by
        rw [Array.getElem?_toList]
        simp [his] at hun ⊢; exact hun
      have := count_set listed.toList i hg
      rw [Array.toList_setIfInBounds]; omega
    -- the guard
    have hwant : Region.wanted o (yielded ops.toArray a.tmps) = W i := by
      have hg := hL.guard i o ho
      unfold guardIs at hg
      split at hg
      · rename_i hgn; simp [Region.wanted, hgn, hg]
      · rename_i j want hgs
        obtain ⟨t, ht, htN, hcase⟩ := hg
        have hrel := hlook t (mem_look_guard hgs ht)
        have hs : t < a.tmps.size := by rw [h5]; exact htN
        have hy : yielded ops.toArray a.tmps j = (match a.tmps.getD t undef with | .bool b => some b | _ => none) := by
          unfold yielded
          rw [List.getElem?_toArray, ht]
          have h1 : a.tmps[t]? = some (a.tmps.getD t undef) := by simp [hs]
          simp only [Option.bind_some, h1]
          cases a.tmps.getD t undef <;> rfl
        rcases hcase with ⟨b, hb, hw⟩ | ⟨⟨vs, hb⟩, hw⟩
        · rw [hb] at hrel
          rw [hrel.v_inv] at hy
          simp only [Region.wanted, hgs, hy, hw]
          cases b <;> cases want <;> rfl
        · rw [hb] at hrel
          rw [hrel.v_inv] at hy
          simp only [Region.wanted, hgs, hy, hw]
          rfl
    unfold wpOp
    rw [ho']
    simp only
    cases hW : W i with
    | false =>
      rw [if_neg (by rw [hwant, hW]; exact Bool.false_ne_true)]
      obtain ⟨hR, hHe⟩ := hL.skip i o ho hW
      refine ih _ _ _ (hnext c undef w (if effI info i then m + 1 else m) (.refl c) (by rw [hR]; exact .v _) ?_ rfl) hfuel
      cases hei : effI info i with
      | false => simpa using h6
      | true =>
        have := hHe hei
        have hmi := hem hei
        simp only [if_true]
        rw [hmi, this, ← hmi]; exact h6
    | true =>
      rw [if_pos (by rw [hwant, hW])]
      refine .inl ?_
      have hok : OpOK P E o.op ⟨st.N, lexSl ops R st.slots i, (Hp m).1, (Hp m).2⟩ (R i) (Hp (if effI info i then m + 1 else m)) := by
        cases hei : effI info i with
        | false => exact hL.pure i o ho hW hei m (hlo hei) (hhi hei) h3
        | true => have := hL.eff i o ho hW hei; rw [← hem hei] at this; exact this
      have hst : RelSt n c ⟨st.N, onlyS (lookT ops o) (lexSl ops R st.slots i), (Hp m).1, (Hp m).2⟩ a w := by
        refine ⟨h4, h5, fun t => ?_, h6, hL.hb m h3⟩
        by_cases ht : t ∈ lookT ops o
        · show RelV c (lk (onlyS _ _) t) _
          rw [(lk_onlyS _ _ t).1 ht]; exact hlook t ht
        · show RelV c (lk (onlyS _ _) t) _
          rw [(lk_onlyS _ _ t).2 ht]; exact .junk _
      have hok2 := vcOp_congr (P := P) (E := E) (s' := onlyS (lookT ops o) (lexSl ops R st.slots i)) (fun x hx => ev_only (fun t ht => mem_look_op (by rw [ht] at hx; exact hx))) hok
      refine vcOp_ok hE hst hok2 ?_
      rintro c' v w' r b l he hr hh hb ⟨rfl, rfl, rfl⟩
      exact ih _ _ _ (hnext c' v w' _ he hr hh rfl) hfuel
end Go.Eng
end
section
set_option linter.unusedSimpArgs false
set_option linter.unusedVariables false
namespace Go.Eng
variable {P : Program} {E : Env}
/-- Operations that neither read nor write memory. -/
def isPure : Op → Bool
  | .move _ | .assign _ | .pick .. | .build .. | .nilCheck _ | .binOp .. | .unOp .. | .convert .. | .makeFunc .. | .slice .. | .fieldAddr .. | .indexAddr .. | .index .. | .extract .. => true
  | .call { callee := .builtin .len, .. } | .call { callee := .builtin .max, .. } | .call { callee := .builtin .min, .. } => true
  | _ => false
/-- It comes to one value. -/
def Det (F : (AVal → Prop) → Prop) : Prop := ∀ k, F k → ∃ r, k r ∧ ∀ k' : AVal → Prop, k' r → F k'
theorem vBin_det {op : BinOp} {T : TypeId} {cc : Bool} {X Y : AVal} : Det (vBin E op T cc X Y) := by
  intro k h
  unfold vBin at h ⊢
  split at h <;> (first | exact ⟨_, h, fun _ q => q⟩ | exact ⟨_, h.2, fun _ q => ⟨h.1, q⟩⟩ | exact ⟨_, h.2.2, fun _ q => ⟨h.1, h.2.1, q⟩⟩ | exact h.elim)
theorem vUn_det {op : UnOp} {X : AVal} : Det (vUn op X) := by
  intro k h
  unfold vUn at h ⊢
  split at h <;> (first | exact ⟨_, h, fun _ q => q⟩ | exact h.elim)
theorem vPick_det {c a b : AVal} : Det (vPick c a b) := by
  intro k h
  unfold vPick at h ⊢
  split at h
  · rename_i t
    cases t
    · exact ⟨b, h.2 rfl, fun _ q => ⟨fun h => (by cases h), fun _ => q⟩⟩
    · exact ⟨a, h.1 rfl, fun _ q => ⟨fun _ => q, fun h => (by cases h)⟩⟩
  · exact h.elim
theorem vConv_det {s d : TypeId} {X : AVal} : Det (vConv E s d X) := by
  intro k h
  unfold vConv at h ⊢
  split at h <;> (first | exact ⟨_, h, fun _ q => q⟩ | exact ⟨_, h.2, fun _ q => ⟨h.1, q⟩⟩ | exact h.elim)
theorem vPart_det {agg : Bool} {sz : Nat} {cs : List AVal} {j : Nat} : Det (vPart agg sz cs j) := by
  intro k h
  unfold vPart at h ⊢; cases agg <;> exact ⟨_, h.2, fun _ q => ⟨h.1, q⟩⟩
theorem vLoad_det {T : TypeId} {st : St} {X : AVal} : Det (vLoad E T st X) := by
  intro k h
  unfold vLoad at h ⊢
  split at h
  · split at h
    · obtain ⟨h1, h2⟩ := h
      obtain ⟨r, g1, g2⟩ := vPart_det _ h2
      exact ⟨r, g1, fun _ q => ⟨h1, g2 _ q⟩⟩
    · obtain ⟨h1, h2, h3⟩ := h
      obtain ⟨r, g1, g2⟩ := vPart_det _ h3
      exact ⟨r, g1, fun _ q => ⟨h1, h2, g2 _ q⟩⟩
    · exact h.elim
  · exact vPart_det _ h
  · exact h.elim
theorem vIdxA_det {T : TypeId} {X I : AVal} : Det (vIdxA E T X I) := by
  intro k h
  unfold vIdxA at h ⊢
  split at h <;> (first | exact ⟨_, h.2.2, fun _ q => ⟨h.1, h.2.1, q⟩⟩ | exact h.elim)
theorem vIdx_det {T : TypeId} {X I : AVal} : Det (vIdx E T X I) := by
  intro k h
  unfold vIdx at h ⊢
  split at h <;> (first | exact ⟨_, h.2, fun _ q => ⟨h.1, q⟩⟩ | exact h.elim)
theorem vFldA_det {T : TypeId} {f : Nat} {X : AVal} : Det (vFldA E T f X) := by
  intro k h
  unfold vFldA at h ⊢
  split at h <;> (first | exact ⟨_, h, fun _ q => q⟩ | exact h.elim)
theorem vExt_det {X : AVal} {i : Nat} : Det (vExt X i) := by
  intro k h
  unfold vExt at h ⊢
  split at h <;> (first | exact ⟨_, h.2, fun _ q => ⟨h.1, q⟩⟩ | exact h.elim)
theorem vLen_det {T : TypeId} {X : AVal} : Det (vLen E T X) := by
  intro k h
  unfold vLen at h ⊢
  split at h <;> (first | exact ⟨_, h, fun _ q => q⟩ | exact h.elim)
theorem vMin_det {mx : Bool} {X Y : AVal} : Det (vMin mx X Y) := by
  intro k h
  unfold vMin at h ⊢
  split at h <;> (first | exact ⟨_, h.2, fun _ q => ⟨h.1, q⟩⟩ | exact h.elim)
theorem vNil_det {X : AVal} : Det (vNil X) := by
  intro k h
  unfold vNil at h ⊢
  split at h <;> (first | exact ⟨_, h, fun _ q => q⟩ | exact h.elim)
theorem vBuild_det {T : TypeId} {ps : List (Nat × AVal)} : Det (vBuild E T ps) := by
  intro k h
  unfold vBuild at h ⊢
  split at h
  · split at h
    · exact ⟨_, h, fun _ q => q⟩
    · exact h.elim
  · exact h.elim
theorem bnd_ex {o : Option AVal} {d : Int} {k : Int → Prop} (h : bnd o d k) : ∃ n, k n ∧ ∀ k' : Int → Prop, k' n → bnd o d k' := by
  unfold bnd at h
  split at h
  · exact ⟨_, h, fun _ q => q⟩
  · exact ⟨_, h, fun _ q => q⟩
  · exact h.elim
theorem vSlice_det {T : TypeId} {X : AVal} {lo hi : Option AVal} : Det (vSlice E T X lo hi) := by
  intro k h
  unfold vSlice at h ⊢
  split at h
  · obtain ⟨l, h, f1⟩ := bnd_ex h
    obtain ⟨u, h, f2⟩ := bnd_ex h
    refine ⟨_, h.2, fun k' q => ?_⟩
    apply f1
    apply f2
    exact ⟨h.1, q⟩
  · obtain ⟨l, h, f1⟩ := bnd_ex h
    obtain ⟨u, h, f2⟩ := bnd_ex h
    refine ⟨_, h.2.2, fun k' q => ?_⟩
    apply f1
    apply f2
    exact ⟨h.1, h.2.1, q⟩
  · obtain ⟨l, h, f1⟩ := bnd_ex h
    obtain ⟨u, h, f2⟩ := bnd_ex h
    refine ⟨_, h.2.2, fun k' q => ?_⟩
    apply f1
    apply f2
    exact ⟨h.1, h.2.1, q⟩
  · exact h.elim
/-- It comes to one value and one heap. -/
def Det3 (F : (AVal → List ABox → List ABox → Prop) → Prop) : Prop := ∀ k, F k → ∃ r b l, k r b l ∧ ∀ k' : AVal → List ABox → List ABox → Prop, k' r b l → F k'
theorem vAlloc_det {T : TypeId} {st : St} : Det3 (vAlloc E T st) := by
  intro k h
  unfold vAlloc at h ⊢
  split at h
  · exact ⟨_, _, _, h, fun _ q => q⟩
  · exact h.elim
theorem vBox_det {st : St} {X : AVal} : Det3 (vBox st X) := by
  intro k h
  unfold vBox at h ⊢
  split at h
  · exact ⟨_, _, _, h, fun _ q => q⟩
  · exact h.elim
theorem setBox_det {st : St} {id : Nat} {X : ABox} {K : List ABox → List ABox → Prop} (h : st.setBox id X K) : ∃ b l, K b l ∧ ∀ K' : List ABox → List ABox → Prop, K' b l → st.setBox id X K' := by
  unfold St.setBox at h ⊢
  split at h
  · rename_i hlt; exact ⟨_, _, h, fun _ q => by rw [if_pos hlt]; exact q⟩
  · rename_i hlt; exact ⟨_, _, h, fun _ q => by rw [if_neg hlt]; exact q⟩
theorem vBuildSl_det {T : TypeId} {n : Nat} {st : St} {ps : List (Nat × AVal)} : Det3 (vBuildSl E T n st ps) := by
  intro k h
  unfold vBuildSl at h ⊢
  split at h
  · split at h
    · exact ⟨_, _, _, h.2, fun _ q => ⟨h.1, q⟩⟩
    · unfold vSealSl at h ⊢
      split at h
      · split at h
        · obtain ⟨b, l, g1, g2⟩ := setBox_det h.2
          exact ⟨_, b, _, g1, fun _ q => ⟨h.1, g2 _ q⟩⟩
        · exact h.elim
      · split at h
        · obtain ⟨b, l, g1, g2⟩ := setBox_det h.2
          exact ⟨_, b, _, g1, fun _ q => ⟨h.1, g2 _ q⟩⟩
        · exact h.elim
      · exact h.elim
  · exact h.elim
theorem vMake_det {T : TypeId} {st : St} {X Y : AVal} : Det3 (vMake E T st X Y) := by
  intro k h
  unfold vMake at h ⊢
  split at h
  · exact ⟨_, _, _, h.2, fun _ q => ⟨h.1, q⟩⟩
  · exact h.elim
theorem vStore_det {T : TypeId} {st : St} {X Y : AVal} : Det3 (fun k => vStore E T st X Y (fun b l => k (.v undef) b l)) := by
  intro k h
  unfold vStore at h ⊢
  split at h
  · obtain ⟨h1, h2, h3, h⟩ := h
    split at h
    · obtain ⟨h4, h5, h⟩ := h
      obtain ⟨b, l, g1, g2⟩ := setBox_det h
      exact ⟨_, b, l, g1, fun k' q => ⟨h1, h2, h3, h4, h5, g2 (fun b l => k' (.v undef) b l) q⟩⟩
    · obtain ⟨h4, h5, h6, h⟩ := h
      split at h
      · obtain ⟨b, l, g1, g2⟩ := setBox_det h
        exact ⟨_, b, l, g1, fun k' q => ⟨h1, h2, h3, h4, h5, h6, g2 (fun b l => k' (.v undef) b l) q⟩⟩
      · exact h.elim
    · exact h.elim
  · exact h.elim
theorem vMakeMap_det {T : TypeId} {st : St} : Det3 (vMakeMap E T st) := by
  intro k h
  unfold vMakeMap at h ⊢
  split at h
  · exact ⟨_, _, _, h, fun _ q => q⟩
  · exact h.elim
theorem vLookup_det {T : TypeId} {st : St} {X I : AVal} {ok : Bool} : Det (vLookup E T st X I ok) := by
  intro k h
  unfold vLookup at h ⊢
  split at h
  · split at h
    · obtain ⟨h1, h⟩ := h
      split at h
      · exact ⟨_, h, fun _ q => ⟨h1, q⟩⟩
      · exact h.elim
    · exact h.elim
  · exact h.elim
theorem vMapUpd_det {T : TypeId} {st : St} {X I Y : AVal} : Det3 (fun k => vMapUpd E T st X I Y (fun b l => k (.v undef) b l)) := by
  intro k h
  unfold vMapUpd at h ⊢
  split at h
  · split at h
    · obtain ⟨h1, h⟩ := h
      split at h
      · obtain ⟨b, l, g1, g2⟩ := setBox_det h
        exact ⟨_, b, l, g1, fun k' q => ⟨h1, g2 (fun b l => k' (.v undef) b l) q⟩⟩
      · exact h.elim
    · exact h.elim
  · exact h.elim
theorem vMapEnt_det {T : TypeId} {st : St} {X I : AVal} : Det3 (vMapEnt E T st X I) := by
  intro k h
  unfold vMapEnt at h ⊢
  split at h
  · split at h
    · obtain ⟨h1, h⟩ := h
      split at h
      · split at h
        · exact ⟨_, _, _, h, fun k' q => ⟨h1, q⟩⟩
        · obtain ⟨b, l, g1, g2⟩ := setBox_det h
          exact ⟨_, b, l, g1, fun k' q => ⟨h1, g2 (fun b l => k' _ b l) q⟩⟩
      · exact h.elim
    · exact h.elim
  · exact h.elim
theorem vEntSt_det {st : St} {X I Y : AVal} : Det3 (fun k => vEntSt st X I Y (fun b l => k (.v undef) b l)) := by
  intro k h
  unfold vEntSt at h ⊢
  split at h
  · split at h
    · obtain ⟨h1, h⟩ := h
      obtain ⟨b, l, g1, g2⟩ := setBox_det h
      exact ⟨_, b, l, g1, fun k' q => ⟨h1, g2 (fun b l => k' (.v undef) b l) q⟩⟩
    · exact h.elim
  · exact h.elim
theorem vEntry_det {st : St} {X : AVal} : Det (vEntry st X) := by
  intro k h
  unfold vEntry at h ⊢
  split at h
  · split at h
    · split at h
      · obtain ⟨h1, h⟩ := h
        split at h
        · exact ⟨_, h, fun _ q => ⟨h1, q⟩⟩
        · exact h.elim
      · exact h.elim
    · exact h.elim
  · exact h.elim
theorem vRange_det {T : TypeId} {st : St} {X : AVal} : Det3 (vRange E T st X) := by
  intro k h
  unfold vRange at h ⊢
  split at h
  · split at h
    · exact ⟨_, _, _, h, fun _ q => q⟩
    · exact h.elim
  · exact h.elim
theorem elems_det {e : ETy} {st : St} {Y : AVal} {k : List e.T → Prop} (h : elems e st Y k) : ∃ ys, k ys ∧ ∀ k' : List e.T → Prop, k' ys → elems e st Y k' := by
  unfold elems at h ⊢
  split at h
  · split at h
    · rename_i he; subst he; exact ⟨_, h, fun _ q => by rw [dif_pos rfl]; exact q⟩
    · exact h.elim
  · split at h
    · split at h
      · rename_i he; subst he; exact ⟨_, h.2.2, fun _ q => by rw [dif_pos rfl]; exact ⟨h.1, h.2.1, q⟩⟩
      · exact h.elim
    · exact h.elim
  · exact ⟨_, h, fun _ q => q⟩
  · exact h.elim
theorem vAppend_det {T : TypeId} {st : St} {X Y : AVal} : Det3 (vAppend E T st X Y) := by
  intro k h
  unfold vAppend at h ⊢
  split at h
  · exact h.elim
  · obtain ⟨ys, h, hel⟩ := elems_det h
    split at h
    · exact ⟨_, _, _, h.2, fun k' q => hel _ ⟨h.1, q⟩⟩
    · split at h
      · split at h
        · rename_i he
          subst he
          obtain ⟨h1, h2, h⟩ := h
          obtain ⟨b, l, g1, g2⟩ := setBox_det h
          exact ⟨_, b, _, g1, fun k' q => hel _ (by rw [dif_pos rfl]; exact ⟨h1, h2, g2 (fun b l => k' _ b _) q⟩)⟩
        · exact h.elim
      · exact h.elim
    · exact h.elim
theorem vCopy_det {T : TypeId} {st : St} {X Y : AVal} : Det3 (vCopy E T st X Y) := by
  intro k h
  unfold vCopy at h ⊢
  split at h
  · obtain ⟨ys, h, hel⟩ := elems_det h
    split at h
    · obtain ⟨h1, h2, h⟩ := h
      obtain ⟨b, l, g1, g2⟩ := setBox_det h
      exact ⟨_, b, l, g1, fun k' q => hel _ ⟨h1, h2, g2 (fun b l => k' _ b l) q⟩⟩
    · exact h.elim
  · exact h.elim
end Go.Eng
end
section
set_option linter.unusedSimpArgs false
set_option linter.unusedVariables false
namespace Go.Eng
variable {P : Program} {E : Env}
theorem vcOp_pure {op : Op} (hp : isPure op = true) {N : Nat} {s : List (Nat × AVal)} {b l : List ABox} {k : AVal → List ABox → List ABox → Prop} (h : vcOp P E op ⟨N, s, b, l⟩ k) :
    ∃ r, k r b l ∧ ∀ hp : List ABox × List ABox, OpOK P E op ⟨N, s, hp.1, hp.2⟩ r hp := by
  have fin : ∀ {F : (AVal → Prop) → Prop}, Det F → F (fun r => k r b l) → ∃ r, k r b l ∧ ∀ hp : List ABox × List ABox, F (fun r' => r' = r ∧ hp.1 = hp.1 ∧ hp.2 = hp.2) :=
    fun hd hf => by obtain ⟨r, h1, h2⟩ := hd _ hf; exact ⟨r, h1, fun _ => h2 _ ⟨rfl, rfl, rfl⟩⟩
  have fin' : ∀ {F : (AVal → Prop) → Prop}, Det F → F (fun r => k r b l) → ∃ r, k r b l ∧ ∀ hp : List ABox × List ABox, F (fun r' => r' = r ∧ True ∧ True) :=
    fun hd hf => by obtain ⟨r, h1, h2⟩ := hd _ hf; exact ⟨r, h1, fun _ => h2 _ ⟨rfl, trivial, trivial⟩⟩
  unfold OpOK
  cases op <;> simp only [isPure, Bool.false_eq_true] at hp
  case move x => exact ⟨_, h, fun _ => ⟨rfl, rfl, rfl⟩⟩
  case assign x => exact ⟨_, h, fun _ => ⟨rfl, rfl, rfl⟩⟩
  case pick => exact fin vPick_det h
  case build => exact fin vBuild_det h
  case nilCheck => exact fin vNil_det h
  case binOp => exact fin vBin_det h
  case unOp => exact fin vUn_det h
  case convert => exact fin vConv_det h
  case makeFunc f first cap =>
    cases f with
    | func f => exact ⟨_, h.2, fun _ => ⟨h.1, rfl, rfl, rfl⟩⟩
    | _ => exact h.elim
  case slice T x lo hi mx =>
    cases mx with
    | none => exact fin vSlice_det h
    | some _ => exact h.elim
  case fieldAddr => exact fin vFldA_det h
  case indexAddr => exact fin vIdxA_det h
  case index => exact fin vIdx_det h
  case extract => exact fin vExt_det h
  case call c =>
    obtain ⟨callee, args, ts⟩ := c
    cases callee with
    | invoke r m => simp [isPure] at hp
    | value f => simp [isPure] at hp
    | builtin bb =>
      simp only [vcOp] at h ⊢
      rcases hA : args.toList with _ | ⟨x, _ | ⟨y, _ | ⟨y2, rest⟩⟩⟩
      · cases bb <;> simp [vcCall, hA] at h
      · cases bb <;> simp only [vcCall, hA] at h ⊢
        case len =>
          rcases hT : ts.toList with _ | ⟨T, _ | ⟨T', rest⟩⟩ <;> simp only [hT] at h ⊢
          exact fin' vLen_det h
      · cases bb <;> simp only [vcCall, hA] at h ⊢
        case append => simp [isPure] at hp
        case copy => simp [isPure] at hp
        case max => exact fin' vMin_det h
        case min => exact fin' vMin_det h
      · cases bb <;> simp [vcCall, hA] at h
/-- One operation, with the result of a call said outright. -/
def vcE (P : Program) (E : Env) (op : Op) (st : St) (k : AVal → List ABox → List ABox → Prop) : Prop :=
  match op with
  | .call ⟨.value f, args, _⟩ =>
    match st.ev f with
    | .fn g cap => ∃ r b l, AC P g (args.toList.map st.ev ++ cap) (st.base ++ st.loc) (fun r' H' => r' = r ∧ H' = b ++ l) ∧ b.length = st.base.length ∧ k r b l
    | _ => False
  | .next _ _ => False
  | op => vcOp P E op st k
theorem vcOp_det {op : Op} {st : St} {k : AVal → List ABox → List ABox → Prop} (hnn : ∀ x y, op ≠ .next x y) (hnc : ∀ f args ts, op ≠ .call ⟨.value f, args, ts⟩) (h : vcOp P E op st k) :
    ∃ r b l, k r b l ∧ vcOp P E op st (fun r' b' l' => r' = r ∧ b' = b ∧ l' = l) := by
  cases hp : isPure op with
  | true =>
    obtain ⟨N, s, b, l⟩ := st
    obtain ⟨r, h1, h2⟩ := vcOp_pure hp h
    exact ⟨r, b, l, h1, h2 (b, l)⟩
  | false =>
    have fin : ∀ {F : (AVal → Prop) → Prop}, Det F → F (fun r => k r st.base st.loc) → ∃ r b l, k r b l ∧ F (fun r' => r' = r ∧ st.base = b ∧ st.loc = l) :=
      fun hd hf => by obtain ⟨r, h1, h2⟩ := hd _ hf; exact ⟨r, _, _, h1, h2 _ ⟨rfl, rfl, rfl⟩⟩
    have fin3 : ∀ {F : (AVal → List ABox → List ABox → Prop) → Prop}, Det3 F → F k → ∃ r b l, k r b l ∧ F (fun r' b' l' => r' = r ∧ b' = b ∧ l' = l) :=
      fun hd hf => by obtain ⟨r, b, l, h1, h2⟩ := hd _ hf; exact ⟨r, b, l, h1, h2 _ ⟨rfl, rfl, rfl⟩⟩
    unfold vcOp at h
    split at h <;> (first | (simp [isPure] at hp; done) | skip)
    · exact fin3 vAlloc_det h
    · exact fin3 vBox_det h
    · exact fin3 vBuildSl_det h
    · exact fin vLoad_det h
    · exact fin3 vStore_det h
    · exact fin3 vMake_det h
    · exact fin3 vMakeMap_det h
    · exact fin vLookup_det h
    · exact fin3 vMapUpd_det h
    · exact fin3 vMapUpd_det h
    · exact fin3 vMapEnt_det h
    · exact fin3 vEntSt_det h
    · exact fin3 vRange_det h
    · exact absurd rfl (hnn _ _)
    · exact fin vEntry_det h
    · rename_i c
      obtain ⟨callee, args, ts⟩ := c
      cases callee with
      | invoke r m => simp [vcCall] at h
      | value f => exact absurd rfl (hnc f args ts)
      | builtin bb =>
        simp only [vcOp]
        rcases hA : args.toList with _ | ⟨x, _ | ⟨y, _ | ⟨y2, rest⟩⟩⟩
        · cases bb <;> simp [vcCall, hA] at h
        · cases bb <;> simp only [vcCall, hA] at h ⊢
          case len =>
            rcases hT : ts.toList with _ | ⟨T, _ | ⟨T', rest⟩⟩ <;> simp only [hT] at h ⊢
            exact fin vLen_det h
        · cases bb <;> simp only [vcCall, hA] at h ⊢
          case append =>
            rcases hT : ts.toList with _ | ⟨T, _ | ⟨T', _ | ⟨T2, rest⟩⟩⟩ <;> simp only [hT] at h ⊢
            obtain ⟨hT', h⟩ := h
            obtain ⟨r, b, l, h1, h2⟩ := vAppend_det _ h
            exact ⟨r, b, l, h1, hT', h2 _ ⟨rfl, rfl, rfl⟩⟩
          case copy =>
            rcases hT : ts.toList with _ | ⟨T, _ | ⟨T', _ | ⟨T2, rest⟩⟩⟩ <;> simp only [hT] at h ⊢
            obtain ⟨hT', h⟩ := h
            obtain ⟨r, b, l, h1, h2⟩ := vCopy_det _ h
            exact ⟨r, b, l, h1, hT', h2 _ ⟨rfl, rfl, rfl⟩⟩
          case max => exact fin vMin_det h
          case min => exact fin vMin_det h
        · cases bb <;> simp [vcCall, hA] at h
    · exact h.elim
theorem vcE_ex {op : Op} {st : St} {k : AVal → List ABox → List ABox → Prop} (h : vcE P E op st k) : ∃ r b l, k r b l ∧ OpOK P E op st r (b, l) := by
  unfold vcE at h
  split at h
  · rename_i f args ts
    split at h
    · rename_i g cap hg
      obtain ⟨r, b, l, h1, h2, h3⟩ := h
      refine ⟨r, b, l, h3, ?_⟩
      show vCall P (st.ev f) (args.toList.map st.ev) st _
      unfold vCall
      rw [hg]
      exact h1.mono fun r' H' ⟨e1, e2⟩ => ⟨b, l, e2, h2, e1, rfl, rfl⟩
    · exact h.elim
  · exact h.elim
  · rename_i hnc hnn
    exact vcOp_det (fun x y e => hnn x y e) (fun f args ts e => hnc f args ts e) h
abbrev Heap2 := List ABox × List ABox
def pendOk : List (Nat × (Heap2 → Prop)) → Nat → Heap2 → Prop
  | [], _, _ => True
  | (hi, p) :: r, m, h => (m ≤ hi → p h) ∧ pendOk r m h
/-- The heaps before this one, the last first; m of them. -/
def pastOk : List Heap2 → Nat → (Heap2 → Prop) → Prop
  | [], _, _ => True
  | h :: r, lo, p => (lo ≤ r.length → p h) ∧ pastOk r lo p
def putS (sl : List (Nat × AVal)) (d : Option Nat) (r : AVal) : List (Nat × AVal) :=
  match d with
  | none => sl
  | some t => (t, r) :: sl
/-- THE RUN. -/
def vcDr (P : Program) (E : Env) (ops : List Oper) (info : List (Bool × Nat × Nat)) (n N : Nat) :
    Nat → List Oper → List (Nat × AVal) → Heap2 → List Heap2 → List (Nat × (Heap2 → Prop)) → (List (Nat × AVal) → Heap2 → Prop) → Prop
  | _, [], sl, h, _, _, K => K sl h
  | i, o :: rest, sl, h, past, pend, K =>
    dstOk N o.dst ∧
    vGuard ops o.guard ⟨N, sl, h.1, h.2⟩
      (bif isPure o.op then effI info i = false ∧ vcOp P E o.op ⟨N, sl, h.1, h.2⟩ (fun r _ _ => vcDr P E ops info n N (i + 1) rest (putS sl o.dst r) h past pend K)
       else bif effI info i then vcE P E o.op ⟨N, sl, h.1, h.2⟩ (fun r b l => b.length = n ∧ pendOk pend (past.length + 1) (b, l) ∧ vcDr P E ops info n N (i + 1) rest (putS sl o.dst r) (b, l) (h :: past) pend K)
       else vcE P E o.op ⟨N, sl, h.1, h.2⟩ (fun r b l => (b = h.1 ∧ l = h.2) ∧ pastOk past (loI info i) (fun h' => OpOK P E o.op ⟨N, sl, h'.1, h'.2⟩ r h') ∧
          vcDr P E ops info n N (i + 1) rest (putS sl o.dst r) h past (if hiI info i ≤ past.length then pend else (hiI info i, fun h' => OpOK P E o.op ⟨N, sl, h'.1, h'.2⟩ r h') :: pend) K))
      (bif effI info i then pendOk pend (past.length + 1) h ∧ vcDr P E ops info n N (i + 1) rest (putS sl o.dst (.v undef)) h (h :: past) pend K
       else vcDr P E ops info n N (i + 1) rest (putS sl o.dst (.v undef)) h past pend K)
structure LexTo (P : Program) (E : Env) (ops : List Oper) (info : List (Bool × Nat × Nat)) (n : Nat) (st : St) (i : Nat) (R : Nat → AVal) (W : Nat → Bool) (Hp : Nat → Heap2) (h : Heap2) (past : List Heap2) (pend : List (Nat × (Heap2 → Prop))) : Prop where
  h0 : Hp 0 = (st.base, st.loc)
  cur : Hp (cntE info i) = h
  plen : past.length = cntE info i
  pst : ∀ q, q < cntE info i → past[cntE info i - 1 - q]? = some (Hp q)
  hb : ∀ m, m ≤ cntE info i → (Hp m).1.length = n
  dstN : ∀ (j : Nat) (o : Oper), j < i → ops[j]? = some o → dstOk st.N o.dst
  guard : ∀ (j : Nat) (o : Oper), j < i → ops[j]? = some o → guardIs ops o.guard st.N (lexSl ops R st.slots j) (W j)
  skip : ∀ (j : Nat) (o : Oper), j < i → ops[j]? = some o → W j = false → R j = .v undef ∧ (effI info j = true → Hp (cntE info j + 1) = Hp (cntE info j))
  eff : ∀ (j : Nat) (o : Oper), j < i → ops[j]? = some o → W j = true → effI info j = true → OpOK P E o.op ⟨st.N, lexSl ops R st.slots j, (Hp (cntE info j)).1, (Hp (cntE info j)).2⟩ (R j) (Hp (cntE info j + 1))
  pure : ∀ (j : Nat) (o : Oper), j < i → ops[j]? = some o → W j = true → effI info j = false → ∀ m, loI info j ≤ m → m ≤ hiI info j → m ≤ cntE info i →
    OpOK P E o.op ⟨st.N, lexSl ops R st.slots j, (Hp m).1, (Hp m).2⟩ (R j) (Hp m)
  pnd : ∀ (j : Nat) (o : Oper), j < i → ops[j]? = some o → W j = true → effI info j = false → (∀ h' : Heap2, OpOK P E o.op ⟨st.N, lexSl ops R st.slots j, h'.1, h'.2⟩ (R j) h') ∨
    (∃ p, (hiI info j, p) ∈ pend ∧ ∀ h' : Heap2, p h' → OpOK P E o.op ⟨st.N, lexSl ops R st.slots j, h'.1, h'.2⟩ (R j) h') ∨ hiI info j ≤ cntE info i
theorem lexSl_upd {ops : List Oper} {R : Nat → AVal} {sl : List (Nat × AVal)} {i : Nat} {r : AVal} : ∀ k, k ≤ i → lexSl ops (fun j => if j = i then r else R j) sl k = lexSl ops R sl k
  | 0, _ => rfl
  | k + 1, hk => by
    have ih := lexSl_upd (ops := ops) (R := R) (sl := sl) (i := i) (r := r) k (by omega)
    simp only [lexSl, ih, if_neg (show ¬ k = i by omega)]
theorem pendOk_mem {pend : List (Nat × (Heap2 → Prop))} {m : Nat} {h : Heap2} (hp : pendOk pend m h) {hi : Nat} {p : Heap2 → Prop} (hm : (hi, p) ∈ pend) (hle : m ≤ hi) : p h := by
  induction pend with
  | nil => cases hm
  | cons x r ih =>
    obtain ⟨a, b⟩ := x
    rcases List.mem_cons.1 hm with e | e
    · cases e; exact hp.1 hle
    · exact ih hp.2 e
theorem pastOk_get {past : List Heap2} {lo : Nat} {p : Heap2 → Prop} (hp : pastOk past lo p) {q : Nat} {h : Heap2} (hq : past[past.length - 1 - q]? = some h) (hlt : q < past.length) (hle : lo ≤ q) : p h := by
  induction past with
  | nil => simp at hlt
  | cons x r ih =>
    by_cases e : q = r.length
    · subst e
      simp at hq
      subst hq; exact hp.1 hle
    · have hlt' : q < r.length := by simp at hlt; omega
      refine ih hp.2 ?_ hlt'
      have e2 : (x :: r).length - 1 - q = (r.length - 1 - q) + 1 := by simp; omega
      rw [e2] at hq
      simpa using hq
theorem LexTo.step {ops : List Oper} {info : List (Bool × Nat × Nat)} {n : Nat} {st : St} {i : Nat} {R : Nat → AVal} {W : Nat → Bool} {Hp : Nat → Heap2} {h : Heap2} {past : List Heap2} {pend : List (Nat × (Heap2 → Prop))}
    (hL : LexTo P E ops info n st i R W Hp h past pend) {o : Oper} (ho : ops[i]? = some o) {r : AVal} {w : Bool} {h' : Heap2} {pend' : List (Nat × (Heap2 → Prop))}
    (hd : dstOk st.N o.dst) (hg : guardIs ops o.guard st.N (lexSl ops R st.slots i) w) (hs : w = false → r = .v undef ∧ h' = h)
    (he : w = true → effI info i = true → OpOK P E o.op ⟨st.N, lexSl ops R st.slots i, h.1, h.2⟩ r h') (hne : effI info i = false → h' = h)
    (hp : w = true → effI info i = false → (∀ m, loI info i ≤ m → m ≤ cntE info i → OpOK P E o.op ⟨st.N, lexSl ops R st.slots i, (Hp m).1, (Hp m).2⟩ r (Hp m)) ∧
      ((∀ h' : Heap2, OpOK P E o.op ⟨st.N, lexSl ops R st.slots i, h'.1, h'.2⟩ r h') ∨ (∃ p, (hiI info i, p) ∈ pend' ∧ ∀ h' : Heap2, p h' → OpOK P E o.op ⟨st.N, lexSl ops R st.slots i, h'.1, h'.2⟩ r h') ∨ hiI info i ≤ cntE info i))
    (hn : h'.1.length = n) (hpe : effI info i = true → pendOk pend (cntE info i + 1) h') (hsub : ∀ x ∈ pend, x ∈ pend') :
    LexTo P E ops info n st (i + 1) (fun j => if j = i then r else R j) (fun j => if j = i then w else W j) (fun q => if q = cntE info (i + 1) then h' else Hp q) h' (if effI info i then h :: past else past) pend' := by
  have hc : cntE info (i + 1) = cntE info i + if effI info i then 1 else 0 := rfl
  have hHp : ∀ q, q ≤ cntE info i → (if q = cntE info (i + 1) then h' else Hp q) = Hp q := fun q hq => by
    by_cases e : q = cntE info (i + 1)
    · rw [if_pos e]
      cases hei : effI info i with
      | true => rw [hei] at hc; simp only [if_true] at hc; omega
      | false => rw [hei] at hc; simp at hc; rw [e, hc, hL.cur, hne hei]
    · rw [if_neg e]
  have hR : ∀ j, j ≤ i → lexSl ops (fun j => if j = i then r else R j) st.slots j = lexSl ops R st.slots j := fun j hj => lexSl_upd j hj
  have hle : ∀ {j}, j < i → cntE info j + (if effI info j then 1 else 0) ≤ cntE info i := fun {j} hj => cntE_le (info := info) (i := j + 1) hj
  have hlt : ∀ {j}, j < i → effI info j = true → cntE info j + 1 ≤ cntE info i := fun hj hej => by have := hle hj; rw [if_pos hej] at this; exact this
  have lt_or : ∀ {j : Nat}, j < i + 1 → j ≠ i → j < i := fun h1 h2 => by omega
  refine ⟨?_, ?_, ?_, ?_, ?_, ?_, ?_, ?_, ?_, ?_, ?_⟩
  · show (if 0 = _ then h' else Hp 0) = _
    rw [hHp 0 (Nat.zero_le _)]; exact hL.h0
  · simp
  · rw [hc]; cases effI info i <;> simp [hL.plen]
  · intro q hq
    rw [hc] at hq ⊢
    cases hei : effI info i with
    | true =>
      rw [hei] at hq; simp only [if_true] at hq ⊢
      have e : (if q = cntE info i + 1 then h' else Hp q) = Hp q := by rw [if_neg (by omega)]
      rw [e]
      by_cases e2 : q = cntE info i
      · subst e2; simp [hL.cur]
      · have := hL.pst q (by omega)
        have e3 : cntE info i + 1 - 1 - q = (cntE info i - 1 - q) + 1 := by omega
        rw [e3]; simpa using this
    | false =>
      rw [hei] at hq; simp at hq ⊢
      rw [if_neg (by omega)]
      exact hL.pst q hq
  · intro m hm
    show (if m = _ then h' else Hp m).1.length = n
    by_cases e : m = cntE info (i + 1)
    · rw [if_pos e]; exact hn
    · rw [if_neg e]
      refine hL.hb m ?_
      rw [hc] at hm e
      cases hei : effI info i <;> rw [hei] at hm e <;> simp at hm e <;> omega
  · intro j o' hj ho'
    by_cases e : j = i
    · subst e; rw [ho] at ho'; cases ho'; exact hd
    · exact hL.dstN j o' (lt_or hj e) ho'
  · intro j o' hj ho'
    rw [hR j (by omega)]
    by_cases e : j = i
    · subst e; rw [ho] at ho'; cases ho'; simpa using hg
    · simp only [if_neg e]; exact hL.guard j o' (lt_or hj e) ho'
  · intro j o' hj ho'
    by_cases e : j = i
    · subst e
      simp only [if_true]
      intro hw
      obtain ⟨h1, h2⟩ := hs hw
      refine ⟨h1, fun hej => ?_⟩
      rw [hHp _ (Nat.le_refl _), hL.cur]
      rw [if_pos (by rw [hc, if_pos hej]), h2]
    · simp only [if_neg e]
      intro hw
      obtain ⟨h1, h2⟩ := hL.skip j o' (lt_or hj e) ho' hw
      refine ⟨h1, fun hej => ?_⟩
      have := hlt (lt_or hj e) hej
      rw [hHp _ this, hHp _ (by omega)]
      exact h2 hej
  · intro j o' hj ho'
    rw [hR j (by omega)]
    by_cases e : j = i
    · subst e; rw [ho] at ho'; cases ho'
      simp only [if_true]
      intro hw hej
      rw [hHp _ (Nat.le_refl _), hL.cur, if_pos (by rw [hc, if_pos hej])]
      exact he hw hej
    · simp only [if_neg e]
      intro hw hej
      have := hlt (lt_or hj e) hej
      rw [hHp _ this, hHp _ (by omega)]
      exact hL.eff j o' (lt_or hj e) ho' hw hej
  · intro j o' hj ho'
    rw [hR j (by omega)]
    by_cases e : j = i
    · subst e; rw [ho] at ho'; cases ho'
      simp only [if_true]
      intro hw hej m hlo hhi hm
      rw [hc, hej] at hm; simp at hm
      rw [hHp _ hm]
      exact (hp hw hej).1 m hlo hm
    · simp only [if_neg e]
      intro hw hej m hlo hhi hm
      have hji := lt_or hj e
      by_cases e2 : m ≤ cntE info i
      · rw [hHp _ e2]
        exact hL.pure j o' hji ho' hw hej m hlo hhi e2
      · have hei : effI info i = true := by
          cases hei : effI info i with
          | true => rfl
          | false => rw [hc, hei] at hm; simp at hm; omega
        rw [hc, hei] at hm; simp only [if_true] at hm
        have em : m = cntE info (i + 1) := by rw [hc, hei]; simp only [if_true]; omega
        rw [if_pos em]
        rcases hL.pnd j o' hji ho' hw hej with hall | ⟨p, hmem, himp⟩ | hle2
        · exact hall h'
        · exact himp h' (pendOk_mem (hpe hei) hmem (by omega))
        · omega
  · intro j o' hj ho'
    rw [hR j (by omega)]
    by_cases e : j = i
    · subst e; rw [ho] at ho'; cases ho'
      simp only [if_true]
      intro hw hej
      rcases (hp hw hej).2 with h1 | h1 | h1
      · exact .inl h1
      · exact .inr (.inl h1)
      · exact .inr (.inr (by rw [hc]; omega))
    · simp only [if_neg e]
      intro hw hej
      rcases hL.pnd j o' (lt_or hj e) ho' hw hej with hall | ⟨p, hmem, himp⟩ | hle2
      · exact .inl hall
      · exact .inr (.inl ⟨p, hsub _ hmem, himp⟩)
      · exact .inr (.inr (by rw [hc]; omega))
theorem vGuard_ex {ops : List Oper} {g : Option (Nat × Bool)} {st : St} {run skip : Prop} (h : vGuard ops g st run skip) : ∃ w, guardIs ops g st.N st.slots w ∧ (w = true → run) ∧ (w = false → skip) := by
  unfold vGuard at h
  unfold guardIs
  split at h
  · exact ⟨true, rfl, fun _ => h, fun e => (by cases e)⟩
  · rename_i j want
    simp only
    split at h
    · exact h.elim
    · rename_i t ht
      obtain ⟨hlt, h⟩ := h
      split at h
      · rename_i b hb
        refine ⟨b == want, ⟨t, ht, hlt, .inl ⟨b, hb, rfl⟩⟩, fun e => h.1 (by simpa using e), fun e => h.2 (by simpa using e)⟩
      · rename_i vs hb
        exact ⟨false, ⟨t, ht, hlt, .inr ⟨⟨vs, hb⟩, rfl⟩⟩, fun e => (by cases e), fun _ => h⟩
      · exact h.elim
theorem vcDr_lex {ops : List Oper} {info : List (Bool × Nat × Nat)} {n : Nat} {st : St} {K : List (Nat × AVal) → Heap2 → Prop} : ∀ (rest : List Oper) (i : Nat) {R : Nat → AVal} {W : Nat → Bool} {Hp : Nat → Heap2} {h : Heap2} {past : List Heap2} {pend : List (Nat × (Heap2 → Prop))}
    (_ : ∀ k, rest[k]? = ops[i + k]?) (_ : i + rest.length = ops.length) (_ : LexTo P E ops info n st i R W Hp h past pend) (_ : vcDr P E ops info n st.N i rest (lexSl ops R st.slots i) h past pend K),
    ∃ R W Hp, Lex P E ops info n st R W Hp ∧ K (lexSl ops R st.slots ops.length) (Hp (cntE info ops.length))
  | [], i, R, W, Hp, h, past, pend, hr, hlen, hL, hv => by
    have hi : i = ops.length := by simpa using hlen
    subst hi
    have lt : ∀ {j : Nat} {o : Oper}, ops[j]? = some o → j < ops.length := fun h => (List.getElem?_eq_some_iff.1 h).1
    refine ⟨R, W, Hp, ⟨hL.h0, hL.hb, fun j o ho => hL.dstN j o (lt ho) ho, fun j o ho => hL.guard j o (lt ho) ho, fun j o ho => hL.skip j o (lt ho) ho, fun j o ho => hL.eff j o (lt ho) ho, fun j o ho => hL.pure j o (lt ho) ho⟩, ?_⟩
    rw [hL.cur]; exact hv
  | o :: rest, i, R, W, Hp, h, past, pend, hr, hlen, hL, hv => by
    have ho : ops[i]? = some o := by have := hr 0; simpa using this.symm
    have hr' : ∀ k, rest[k]? = ops[(i + 1) + k]? := fun k => by
      have := hr (k + 1)
      rw [show i + 1 + k = i + (k + 1) by omega, ← this]; simp
    have hlen' : i + 1 + rest.length = ops.length := by simp at hlen; omega
    have next : ∀ (r : AVal), lexSl ops (fun j => if j = i then r else R j) st.slots (i + 1) = putS (lexSl ops R st.slots i) o.dst r := fun r => by
      show (match (ops[i]?).bind (·.dst) with | none => lexSl ops _ st.slots i | some t => (t, if i = i then r else R i) :: lexSl ops _ st.slots i) = _
      rw [lexSl_upd i (Nat.le_refl i), ho, if_pos rfl]
      show (match o.dst with | none => _ | some t => _) = _
      unfold putS
      cases o.dst <;> rfl
    have hn : h.1.length = n := by rw [← hL.cur]; exact hL.hb _ (Nat.le_refl _)
    unfold vcDr at hv
    obtain ⟨hd, hv⟩ := hv
    obtain ⟨w, hg, hrun, hskip⟩ := vGuard_ex hv
    cases w with
    | false =>
      have hs := hskip rfl
      cases hei : effI info i with
      | true =>
        rw [hei] at hs
        obtain ⟨hp, hs⟩ := hs
        have h2 := hL.step ho (r := .v undef) (w := false) (h' := h) (pend' := pend) hd hg (fun _ => ⟨rfl, rfl⟩) (fun e => (by cases e)) (fun _ => rfl) (fun e => (by cases e)) hn (fun _ => by rw [← hL.plen]; exact hp) (fun _ h => h)
        rw [if_pos hei] at h2
        exact vcDr_lex rest (i + 1) hr' hlen' h2 (by rw [next]; exact hs)
      | false =>
        rw [hei] at hs
        have h2 := hL.step ho (r := .v undef) (w := false) (h' := h) (pend' := pend) hd hg (fun _ => ⟨rfl, rfl⟩) (fun e => (by cases e)) (fun _ => rfl) (fun e => (by cases e)) hn (fun e => by rw [hei] at e; cases e) (fun _ h => h)
        rw [if_neg (by rw [hei]; exact Bool.false_ne_true)] at h2
        exact vcDr_lex rest (i + 1) hr' hlen' h2 (by rw [next]; exact hs)
    | true =>
      have hs := hrun rfl
      cases hip : isPure o.op with
      | true =>
        rw [hip] at hs
        obtain ⟨hei, hop⟩ := hs
        obtain ⟨r, hk, hall⟩ := vcOp_pure hip hop
        have h2 := hL.step ho (r := r) (w := true) (h' := h) (pend' := pend) hd hg (fun e => (by cases e)) (fun _ e => by rw [hei] at e; cases e) (fun _ => rfl) (fun _ _ => ⟨fun m _ _ => hall (Hp m), .inl hall⟩) hn (fun e => by rw [hei] at e; cases e) (fun _ h => h)
        rw [if_neg (by rw [hei]; exact Bool.false_ne_true)] at h2
        exact vcDr_lex rest (i + 1) hr' hlen' h2 (by rw [next]; exact hk)
      | false =>
        rw [hip] at hs
        cases hei : effI info i with
        | true =>
          rw [hei] at hs
          obtain ⟨r, b, l, ⟨hbn, hpe, hk⟩, hok⟩ := vcE_ex hs
          have h2 := hL.step ho (r := r) (w := true) (h' := (b, l)) (pend' := pend) hd hg (fun e => (by cases e)) (fun _ _ => hok) (fun e => by rw [hei] at e; cases e) (fun _ e => by rw [hei] at e; cases e) hbn (fun _ => by rw [← hL.plen]; exact hpe) (fun _ h => h)
          rw [if_pos hei] at h2
          exact vcDr_lex rest (i + 1) hr' hlen' h2 (by rw [next]; exact hk)
        | false =>
          rw [hei] at hs
          obtain ⟨r, b, l, ⟨⟨hb, hl⟩, hpa, hk⟩, hok⟩ := vcE_ex hs
          have hbl : (b, l) = h := by rw [hb, hl]
          rw [hbl] at hok
          have h2 := hL.step ho (r := r) (w := true) (h' := h) (pend' := if hiI info i ≤ past.length then pend else (hiI info i, fun h' => OpOK P E o.op ⟨st.N, lexSl ops R st.slots i, h'.1, h'.2⟩ r h') :: pend) hd hg (fun e => (by cases e)) (fun _ e => by rw [hei] at e; cases e) (fun _ => rfl)
            (fun _ _ => ⟨fun m hlo hm => by
              rcases Nat.lt_or_ge m (cntE info i) with hlt | hge
              · exact pastOk_get hpa (by rw [hL.plen]; exact hL.pst m hlt) (by rw [hL.plen]; exact hlt) hlo
              · have : m = cntE info i := by omega
                subst this; rw [hL.cur]; exact hok, by
                  by_cases hq : hiI info i ≤ past.length
                  · exact .inr (.inr (by rw [← hL.plen]; exact hq))
                  · rw [if_neg hq]; exact .inr (.inl ⟨_, List.mem_cons_self, fun _ h => h⟩)⟩) hn (fun e => by rw [hei] at e; cases e) (fun _ h => by
              by_cases hq : hiI info i ≤ past.length
              · rw [if_pos hq]; exact h
              · rw [if_neg hq]; exact List.mem_cons_of_mem _ h)
          rw [if_neg (by rw [hei]; exact Bool.false_ne_true)] at h2
          exact vcDr_lex rest (i + 1) hr' hlen' h2 (by rw [next]; exact hk)
section
variable {n : Nat} {Q : Exit → St → Prop}
/-- A REGION THAT DRAWS ITS ORDER. -/
theorem AW.dregion {N : Nat} {sl0 : List (Nat × AVal)} {b0 l0 : List ABox} (hE : EnvOk P E) (hm : P.follows .mixedOrders = true) {id : Nat} {l : List Oper} (info : List (Bool × Nat × Nat)) (hchk : drawChk l info = true) (hn : b0.length = b0.length)
    (h : ∀ K : List (Nat × AVal) → Heap2 → Prop, (∀ sl h', Q .normal ⟨N, sl, h'.1, h'.2⟩ → K sl h') → vcDr P E l info b0.length N 0 l sl0 (b0, l0) [] [] K) : AW P n (.region id l.toArray true) Q ⟨N, sl0, b0, l0⟩ := by
  intro c a w hst
  have h0 := h _ (fun _ _ h => h)
  have hL0 : LexTo P E l info b0.length ⟨N, sl0, b0, l0⟩ 0 (fun _ => .junk) (fun _ => false) (fun _ => (b0, l0)) (b0, l0) [] [] :=
    ⟨rfl, rfl, rfl, fun q h => (by simp [cntE] at h), fun _ _ => rfl, fun j _ h => absurd h (by omega), fun j _ h => absurd h (by omega), fun j _ h => absurd h (by omega), fun j _ h => absurd h (by omega), fun j _ h => absurd h (by omega), fun j _ h => absurd h (by omega)⟩
  obtain ⟨R, W, Hp, hL, hK⟩ := vcDr_lex l 0 (fun k => by rw [Nat.zero_add]) (by simp) hL0 h0
  refine wp_region_any hm ?_
  have hD := drawChk_ok hchk
  have hI : DInv l info c ⟨N, sl0, b0, l0⟩ R Hp (Array.replicate l.toArray.size false) a { w with drawn := w.drawn + 1 } := by
    have hf : ∀ i, (Array.replicate l.toArray.size false).getD i false = false := fun i => by
      simp only [Array.getD, Array.size_replicate]
      split <;> simp
    refine ⟨by simp, fun i o j _ hl => (by rw [hf] at hl; cases hl), c, 0, .refl c, fun i _ _ => (by rw [hf]; simp), Nat.zero_le _, hst.rel.defers, hst.rel.size, ?_, fun t => ?_⟩
    · rw [hL.h0]; exact hst.rel.heap.drew
    · have := hst.rel.slots t
      cases hw : writer l t with
      | none => exact this
      | some j => simp only [hf, Bool.false_eq_true, if_false]; exact this
  refine dinv_any hE hD hL (fun c' a' w' he hr => ⟨c', _, he.toB n, .of hst.le hr, hK⟩) _ _ _ _ hI (by simp)
theorem AW.dreg {N : Nat} {sl0 : List (Nat × AVal)} {b0 l0 : List ABox} (hE : EnvOk P E) (hm : P.follows .mixedOrders = true) {id : Nat} {l : List Oper} {y : Code} (info : List (Bool × Nat × Nat)) (hchk : drawChk l info = true) (hn : b0.length = b0.length)
    (h : ∀ K : List (Nat × AVal) → Heap2 → Prop, (∀ sl h', AW P n y Q ⟨N, sl, h'.1, h'.2⟩ → K sl h') → vcDr P E l info b0.length N 0 l sl0 (b0, l0) [] [] K) : AW P n (.seq (.region id l.toArray true) y) Q ⟨N, sl0, b0, l0⟩ :=
  AW.seq (AW.dregion hE hm info hchk hn h)
end
end Go.Eng
end

/- The engine, part Q: a drawn region's run in the text's order, with what other orders need said beside it; and the rule. -/
import Derived.Test.YtlgagjboijkpgaaDoorEngO
set_option linter.unusedSimpArgs false
set_option linter.unusedVariables false
namespace Go.Eng
variable {P : Program} {E : Env}

theorem vcOp_pure {op : Op} (hp : isPure op = true) {N : Nat} {s : List (Nat × AVal)} {b l : List ABox} {k : AVal → List ABox → List ABox → Prop} (h : vcOp P E op ⟨N, s, b, l⟩ k) :
    ∃ r, k r b l ∧ ∀ hp : List ABox × List ABox, OpOK P E op ⟨N, s, hp.1, hp.2⟩ r hp := by
  have fin : ∀ {F : (AVal → Prop) → Prop}, Det F → F (fun r => k r b l) → ∃ r, k r b l ∧ ∀ hp : List ABox × List ABox, F (fun r' => r' = r ∧ hp.1 = hp.1 ∧ hp.2 = hp.2) :=
    fun hd hf => by obtain ⟨r, h1, h2⟩ := hd _ hf; exact ⟨r, h1, fun _ => h2 _ ⟨rfl, rfl, rfl⟩⟩
  have fin' : ∀ {F : (AVal → Prop) → Prop}, Det F → F (fun r => k r b l) → ∃ r, k r b l ∧ ∀ hp : List ABox × List ABox, F (fun r' => r' = r ∧ True ∧ True) :=
    fun hd hf => by obtain ⟨r, h1, h2⟩ := hd _ hf; exact ⟨r, h1, fun _ => h2 _ ⟨rfl, trivial, trivial⟩⟩
  unfold OpOK
  cases op <;> simp only [isPure, Bool.false_eq_true] at hp
  case move x => exact ⟨_, h, fun _ => ⟨rfl, rfl, rfl⟩⟩
  case assign x => exact ⟨_, h, fun _ => ⟨rfl, rfl, rfl⟩⟩
  case pick => exact fin vPick_det h
  case build => exact fin vBuild_det h
  case nilCheck => exact fin vNil_det h
  case binOp => exact fin vBin_det h
  case unOp => exact fin vUn_det h
  case convert => exact fin vConv_det h
  case makeFunc f first cap =>
    cases f with
    | func f => exact ⟨_, h.2, fun _ => ⟨h.1, rfl, rfl, rfl⟩⟩
    | _ => exact h.elim
  case slice T x lo hi mx =>
    cases mx with
    | none => exact fin vSlice_det h
    | some _ => exact h.elim
  case fieldAddr => exact fin vFldA_det h
  case indexAddr => exact fin vIdxA_det h
  case index => exact fin vIdx_det h
  case extract => exact fin vExt_det h
  case call c =>
    obtain ⟨callee, args, ts⟩ := c
    cases callee with
    | invoke r m => simp [isPure] at hp
    | value f => simp [isPure] at hp
    | builtin bb =>
      simp only [vcOp] at h ⊢
      rcases hA : args.toList with _ | ⟨x, _ | ⟨y, _ | ⟨y2, rest⟩⟩⟩
      · cases bb <;> simp [vcCall, hA] at h
      · cases bb <;> simp only [vcCall, hA] at h ⊢
        case len =>
          rcases hT : ts.toList with _ | ⟨T, _ | ⟨T', rest⟩⟩ <;> simp only [hT] at h ⊢
          exact fin' vLen_det h
      · cases bb <;> simp only [vcCall, hA] at h ⊢
        case append => simp [isPure] at hp
        case max => exact fin' vMin_det h
        case min => exact fin' vMin_det h
      · cases bb <;> simp [vcCall, hA] at h

/-- One operation, with the result of a call said outright. -/
def vcE (P : Program) (E : Env) (op : Op) (st : St) (k : AVal → List ABox → List ABox → Prop) : Prop :=
  match op with
  | .call ⟨.value f, args, _⟩ =>
    match st.ev f with
    | .fn g cap => ∃ r b l, AC P g (args.toList.map st.ev ++ cap) (st.base ++ st.loc) (fun r' H' => r' = r ∧ H' = b ++ l) ∧ b.length = st.base.length ∧ k r b l
    | _ => False
  | .next _ _ => False
  | op => vcOp P E op st k

theorem vcOp_det {op : Op} {st : St} {k : AVal → List ABox → List ABox → Prop} (hnn : ∀ x y, op ≠ .next x y) (hnc : ∀ f args ts, op ≠ .call ⟨.value f, args, ts⟩) (h : vcOp P E op st k) :
    ∃ r b l, k r b l ∧ vcOp P E op st (fun r' b' l' => r' = r ∧ b' = b ∧ l' = l) := by
  cases hp : isPure op with
  | true =>
    obtain ⟨N, s, b, l⟩ := st
    obtain ⟨r, h1, h2⟩ := vcOp_pure hp h
    exact ⟨r, b, l, h1, h2 (b, l)⟩
  | false =>
    have fin : ∀ {F : (AVal → Prop) → Prop}, Det F → F (fun r => k r st.base st.loc) → ∃ r b l, k r b l ∧ F (fun r' => r' = r ∧ st.base = b ∧ st.loc = l) :=
      fun hd hf => by obtain ⟨r, h1, h2⟩ := hd _ hf; exact ⟨r, _, _, h1, h2 _ ⟨rfl, rfl, rfl⟩⟩
    have fin3 : ∀ {F : (AVal → List ABox → List ABox → Prop) → Prop}, Det3 F → F k → ∃ r b l, k r b l ∧ F (fun r' b' l' => r' = r ∧ b' = b ∧ l' = l) :=
      fun hd hf => by obtain ⟨r, b, l, h1, h2⟩ := hd _ hf; exact ⟨r, b, l, h1, h2 _ ⟨rfl, rfl, rfl⟩⟩
    unfold vcOp at h
    split at h <;> (first | (simp [isPure] at hp; done) | skip)
    · exact fin3 vAlloc_det h
    · exact fin3 vBox_det h
    · exact fin3 vBuildSl_det h
    · exact fin vLoad_det h
    · exact fin3 vStore_det h
    · exact fin3 vMake_det h
    · exact fin3 vMakeMap_det h
    · exact fin vLookup_det h
    · exact fin3 vMapUpd_det h
    · exact fin3 vMapEnt_det h
    · exact fin3 vEntSt_det h
    · exact fin3 vRange_det h
    · exact absurd rfl (hnn _ _)
    · exact fin vEntry_det h
    · rename_i c
      obtain ⟨callee, args, ts⟩ := c
      cases callee with
      | invoke r m => simp [vcCall] at h
      | value f => exact absurd rfl (hnc f args ts)
      | builtin bb =>
        simp only [vcOp]
        rcases hA : args.toList with _ | ⟨x, _ | ⟨y, _ | ⟨y2, rest⟩⟩⟩
        · cases bb <;> simp [vcCall, hA] at h
        · cases bb <;> simp only [vcCall, hA] at h ⊢
          case len =>
            rcases hT : ts.toList with _ | ⟨T, _ | ⟨T', rest⟩⟩ <;> simp only [hT] at h ⊢
            exact fin vLen_det h
        · cases bb <;> simp only [vcCall, hA] at h ⊢
          case append =>
            rcases hT : ts.toList with _ | ⟨T, _ | ⟨T', _ | ⟨T2, rest⟩⟩⟩ <;> simp only [hT] at h ⊢
            obtain ⟨hT', h⟩ := h
            obtain ⟨r, b, l, h1, h2⟩ := vAppend_det _ h
            exact ⟨r, b, l, h1, hT', h2 _ ⟨rfl, rfl, rfl⟩⟩
          case max => exact fin vMin_det h
          case min => exact fin vMin_det h
        · cases bb <;> simp [vcCall, hA] at h
    · exact h.elim

theorem vcE_ex {op : Op} {st : St} {k : AVal → List ABox → List ABox → Prop} (h : vcE P E op st k) : ∃ r b l, k r b l ∧ OpOK P E op st r (b, l) := by
  unfold vcE at h
  split at h
  · rename_i f args ts
    split at h
    · rename_i g cap hg
      obtain ⟨r, b, l, h1, h2, h3⟩ := h
      refine ⟨r, b, l, h3, ?_⟩
      show vCall P (st.ev f) (args.toList.map st.ev) st _
      unfold vCall
      rw [hg]
      exact h1.mono fun r' H' ⟨e1, e2⟩ => ⟨b, l, e2, h2, e1, rfl, rfl⟩
    · exact h.elim
  · exact h.elim
  · rename_i hnc hnn
    exact vcOp_det (fun x y e => hnn x y e) (fun f args ts e => hnc f args ts e) h

abbrev Heap2 := List ABox × List ABox

def pendOk : List (Nat × (Heap2 → Prop)) → Nat → Heap2 → Prop
  | [], _, _ => True
  | (hi, p) :: r, m, h => (m ≤ hi → p h) ∧ pendOk r m h
/-- The heaps before this one, the last first; m of them. -/
def pastOk : List Heap2 → Nat → (Heap2 → Prop) → Prop
  | [], _, _ => True
  | h :: r, lo, p => (lo ≤ r.length → p h) ∧ pastOk r lo p
def putS (sl : List (Nat × AVal)) (d : Option Nat) (r : AVal) : List (Nat × AVal) :=
  match d with
  | none => sl
  | some t => (t, r) :: sl

/-- THE RUN. -/
def vcDr (P : Program) (E : Env) (ops : List Oper) (info : List (Bool × Nat × Nat)) (n N : Nat) :
    Nat → List Oper → List (Nat × AVal) → Heap2 → List Heap2 → List (Nat × (Heap2 → Prop)) → (List (Nat × AVal) → Heap2 → Prop) → Prop
  | _, [], sl, h, _, _, K => K sl h
  | i, o :: rest, sl, h, past, pend, K =>
    dstOk N o.dst ∧
    vGuard ops o.guard ⟨N, sl, h.1, h.2⟩
      (bif isPure o.op then effI info i = false ∧ vcOp P E o.op ⟨N, sl, h.1, h.2⟩ (fun r _ _ => vcDr P E ops info n N (i + 1) rest (putS sl o.dst r) h past pend K)
       else bif effI info i then vcE P E o.op ⟨N, sl, h.1, h.2⟩ (fun r b l => b.length = n ∧ pendOk pend (past.length + 1) (b, l) ∧ vcDr P E ops info n N (i + 1) rest (putS sl o.dst r) (b, l) (h :: past) pend K)
       else vcE P E o.op ⟨N, sl, h.1, h.2⟩ (fun r b l => (b = h.1 ∧ l = h.2) ∧ pastOk past (loI info i) (fun h' => OpOK P E o.op ⟨N, sl, h'.1, h'.2⟩ r h') ∧
          vcDr P E ops info n N (i + 1) rest (putS sl o.dst r) h past (if hiI info i ≤ past.length then pend else (hiI info i, fun h' => OpOK P E o.op ⟨N, sl, h'.1, h'.2⟩ r h') :: pend) K))
      (bif effI info i then pendOk pend (past.length + 1) h ∧ vcDr P E ops info n N (i + 1) rest (putS sl o.dst (.v undef)) h (h :: past) pend K
       else vcDr P E ops info n N (i + 1) rest (putS sl o.dst (.v undef)) h past pend K)

structure LexTo (P : Program) (E : Env) (ops : List Oper) (info : List (Bool × Nat × Nat)) (n : Nat) (st : St) (i : Nat) (R : Nat → AVal) (W : Nat → Bool) (Hp : Nat → Heap2) (h : Heap2) (past : List Heap2) (pend : List (Nat × (Heap2 → Prop))) : Prop where
  h0 : Hp 0 = (st.base, st.loc)
  cur : Hp (cntE info i) = h
  plen : past.length = cntE info i
  pst : ∀ q, q < cntE info i → past[cntE info i - 1 - q]? = some (Hp q)
  hb : ∀ m, m ≤ cntE info i → (Hp m).1.length = n
  dstN : ∀ (j : Nat) (o : Oper), j < i → ops[j]? = some o → dstOk st.N o.dst
  guard : ∀ (j : Nat) (o : Oper), j < i → ops[j]? = some o → guardIs ops o.guard st.N (lexSl ops R st.slots j) (W j)
  skip : ∀ (j : Nat) (o : Oper), j < i → ops[j]? = some o → W j = false → R j = .v undef ∧ (effI info j = true → Hp (cntE info j + 1) = Hp (cntE info j))
  eff : ∀ (j : Nat) (o : Oper), j < i → ops[j]? = some o → W j = true → effI info j = true → OpOK P E o.op ⟨st.N, lexSl ops R st.slots j, (Hp (cntE info j)).1, (Hp (cntE info j)).2⟩ (R j) (Hp (cntE info j + 1))
  pure : ∀ (j : Nat) (o : Oper), j < i → ops[j]? = some o → W j = true → effI info j = false → ∀ m, loI info j ≤ m → m ≤ hiI info j → m ≤ cntE info i →
    OpOK P E o.op ⟨st.N, lexSl ops R st.slots j, (Hp m).1, (Hp m).2⟩ (R j) (Hp m)
  pnd : ∀ (j : Nat) (o : Oper), j < i → ops[j]? = some o → W j = true → effI info j = false → (∀ h' : Heap2, OpOK P E o.op ⟨st.N, lexSl ops R st.slots j, h'.1, h'.2⟩ (R j) h') ∨
    (∃ p, (hiI info j, p) ∈ pend ∧ ∀ h' : Heap2, p h' → OpOK P E o.op ⟨st.N, lexSl ops R st.slots j, h'.1, h'.2⟩ (R j) h') ∨ hiI info j ≤ cntE info i

theorem lexSl_upd {ops : List Oper} {R : Nat → AVal} {sl : List (Nat × AVal)} {i : Nat} {r : AVal} : ∀ k, k ≤ i → lexSl ops (fun j => if j = i then r else R j) sl k = lexSl ops R sl k
  | 0, _ => rfl
  | k + 1, hk => by
    have ih := lexSl_upd (ops := ops) (R := R) (sl := sl) (i := i) (r := r) k (by omega)
    simp only [lexSl, ih, if_neg (show ¬ k = i by omega)]

theorem pendOk_mem {pend : List (Nat × (Heap2 → Prop))} {m : Nat} {h : Heap2} (hp : pendOk pend m h) {hi : Nat} {p : Heap2 → Prop} (hm : (hi, p) ∈ pend) (hle : m ≤ hi) : p h := by
  induction pend with
  | nil => cases hm
  | cons x r ih =>
    obtain ⟨a, b⟩ := x
    rcases List.mem_cons.1 hm with e | e
    · cases e; exact hp.1 hle
    · exact ih hp.2 e
theorem pastOk_get {past : List Heap2} {lo : Nat} {p : Heap2 → Prop} (hp : pastOk past lo p) {q : Nat} {h : Heap2} (hq : past[past.length - 1 - q]? = some h) (hlt : q < past.length) (hle : lo ≤ q) : p h := by
  induction past with
  | nil => simp at hlt
  | cons x r ih =>
    by_cases e : q = r.length
    · subst e
      simp at hq
      subst hq; exact hp.1 hle
    · have hlt' : q < r.length := by simp at hlt; omega
      refine ih hp.2 ?_ hlt'
      have e2 : (x :: r).length - 1 - q = (r.length - 1 - q) + 1 := by simp; omega
      rw [e2] at hq
      simpa using hq

theorem LexTo.step {ops : List Oper} {info : List (Bool × Nat × Nat)} {n : Nat} {st : St} {i : Nat} {R : Nat → AVal} {W : Nat → Bool} {Hp : Nat → Heap2} {h : Heap2} {past : List Heap2} {pend : List (Nat × (Heap2 → Prop))}
    (hL : LexTo P E ops info n st i R W Hp h past pend) {o : Oper} (ho : ops[i]? = some o) {r : AVal} {w : Bool} {h' : Heap2} {pend' : List (Nat × (Heap2 → Prop))}
    (hd : dstOk st.N o.dst) (hg : guardIs ops o.guard st.N (lexSl ops R st.slots i) w) (hs : w = false → r = .v undef ∧ h' = h)
    (he : w = true → effI info i = true → OpOK P E o.op ⟨st.N, lexSl ops R st.slots i, h.1, h.2⟩ r h') (hne : effI info i = false → h' = h)
    (hp : w = true → effI info i = false → (∀ m, loI info i ≤ m → m ≤ cntE info i → OpOK P E o.op ⟨st.N, lexSl ops R st.slots i, (Hp m).1, (Hp m).2⟩ r (Hp m)) ∧
      ((∀ h' : Heap2, OpOK P E o.op ⟨st.N, lexSl ops R st.slots i, h'.1, h'.2⟩ r h') ∨ (∃ p, (hiI info i, p) ∈ pend' ∧ ∀ h' : Heap2, p h' → OpOK P E o.op ⟨st.N, lexSl ops R st.slots i, h'.1, h'.2⟩ r h') ∨ hiI info i ≤ cntE info i))
    (hn : h'.1.length = n) (hpe : effI info i = true → pendOk pend (cntE info i + 1) h') (hsub : ∀ x ∈ pend, x ∈ pend') :
    LexTo P E ops info n st (i + 1) (fun j => if j = i then r else R j) (fun j => if j = i then w else W j) (fun q => if q = cntE info (i + 1) then h' else Hp q) h' (if effI info i then h :: past else past) pend' := by
  have hc : cntE info (i + 1) = cntE info i + if effI info i then 1 else 0 := rfl
  have hHp : ∀ q, q ≤ cntE info i → (if q = cntE info (i + 1) then h' else Hp q) = Hp q := fun q hq => by
    by_cases e : q = cntE info (i + 1)
    · rw [if_pos e]
      cases hei : effI info i with
      | true => rw [hei] at hc; simp only [if_true] at hc; omega
      | false => rw [hei] at hc; simp at hc; rw [e, hc, hL.cur, hne hei]
    · rw [if_neg e]
  have hR : ∀ j, j ≤ i → lexSl ops (fun j => if j = i then r else R j) st.slots j = lexSl ops R st.slots j := fun j hj => lexSl_upd j hj
  have hle : ∀ {j}, j < i → cntE info j + (if effI info j then 1 else 0) ≤ cntE info i := fun {j} hj => cntE_le (info := info) (i := j + 1) hj
  have hlt : ∀ {j}, j < i → effI info j = true → cntE info j + 1 ≤ cntE info i := fun hj hej => by have := hle hj; rw [if_pos hej] at this; exact this
  have lt_or : ∀ {j : Nat}, j < i + 1 → j ≠ i → j < i := fun h1 h2 => by omega
  refine ⟨?_, ?_, ?_, ?_, ?_, ?_, ?_, ?_, ?_, ?_, ?_⟩
  · show (if 0 = _ then h' else Hp 0) = _
    rw [hHp 0 (Nat.zero_le _)]; exact hL.h0
  · simp
  · rw [hc]; cases effI info i <;> simp [hL.plen]
  · intro q hq
    rw [hc] at hq ⊢
    cases hei : effI info i with
    | true =>
      rw [hei] at hq; simp only [if_true] at hq ⊢
      have e : (if q = cntE info i + 1 then h' else Hp q) = Hp q := by rw [if_neg (by omega)]
      rw [e]
      by_cases e2 : q = cntE info i
      · subst e2; simp [hL.cur]
      · have := hL.pst q (by omega)
        have e3 : cntE info i + 1 - 1 - q = (cntE info i - 1 - q) + 1 := by omega
        rw [e3]; simpa using this
    | false =>
      rw [hei] at hq; simp at hq ⊢
      rw [if_neg (by omega)]
      exact hL.pst q hq
  · intro m hm
    show (if m = _ then h' else Hp m).1.length = n
    by_cases e : m = cntE info (i + 1)
    · rw [if_pos e]; exact hn
    · rw [if_neg e]
      refine hL.hb m ?_
      rw [hc] at hm e
      cases hei : effI info i <;> rw [hei] at hm e <;> simp at hm e <;> omega
  · intro j o' hj ho'
    by_cases e : j = i
    · subst e; rw [ho] at ho'; cases ho'; exact hd
    · exact hL.dstN j o' (lt_or hj e) ho'
  · intro j o' hj ho'
    rw [hR j (by omega)]
    by_cases e : j = i
    · subst e; rw [ho] at ho'; cases ho'; simpa using hg
    · simp only [if_neg e]; exact hL.guard j o' (lt_or hj e) ho'
  · intro j o' hj ho'
    by_cases e : j = i
    · subst e
      simp only [if_true]
      intro hw
      obtain ⟨h1, h2⟩ := hs hw
      refine ⟨h1, fun hej => ?_⟩
      rw [hHp _ (Nat.le_refl _), hL.cur]
      rw [if_pos (by rw [hc, if_pos hej]), h2]
    · simp only [if_neg e]
      intro hw
      obtain ⟨h1, h2⟩ := hL.skip j o' (lt_or hj e) ho' hw
      refine ⟨h1, fun hej => ?_⟩
      have := hlt (lt_or hj e) hej
      rw [hHp _ this, hHp _ (by omega)]
      exact h2 hej
  · intro j o' hj ho'
    rw [hR j (by omega)]
    by_cases e : j = i
    · subst e; rw [ho] at ho'; cases ho'
      simp only [if_true]
      intro hw hej
      rw [hHp _ (Nat.le_refl _), hL.cur, if_pos (by rw [hc, if_pos hej])]
      exact he hw hej
    · simp only [if_neg e]
      intro hw hej
      have := hlt (lt_or hj e) hej
      rw [hHp _ this, hHp _ (by omega)]
      exact hL.eff j o' (lt_or hj e) ho' hw hej
  · intro j o' hj ho'
    rw [hR j (by omega)]
    by_cases e : j = i
    · subst e; rw [ho] at ho'; cases ho'
      simp only [if_true]
      intro hw hej m hlo hhi hm
      rw [hc, hej] at hm; simp at hm
      rw [hHp _ hm]
      exact (hp hw hej).1 m hlo hm
    · simp only [if_neg e]
      intro hw hej m hlo hhi hm
      have hji := lt_or hj e
      by_cases e2 : m ≤ cntE info i
      · rw [hHp _ e2]
        exact hL.pure j o' hji ho' hw hej m hlo hhi e2
      · have hei : effI info i = true := by
          cases hei : effI info i with
          | true => rfl
          | false => rw [hc, hei] at hm; simp at hm; omega
        rw [hc, hei] at hm; simp only [if_true] at hm
        have em : m = cntE info (i + 1) := by rw [hc, hei]; simp only [if_true]; omega
        rw [if_pos em]
        rcases hL.pnd j o' hji ho' hw hej with hall | ⟨p, hmem, himp⟩ | hle2
        · exact hall h'
        · exact himp h' (pendOk_mem (hpe hei) hmem (by omega))
        · omega
  · intro j o' hj ho'
    rw [hR j (by omega)]
    by_cases e : j = i
    · subst e; rw [ho] at ho'; cases ho'
      simp only [if_true]
      intro hw hej
      rcases (hp hw hej).2 with h1 | h1 | h1
      · exact .inl h1
      · exact .inr (.inl h1)
      · exact .inr (.inr (by rw [hc]; omega))
    · simp only [if_neg e]
      intro hw hej
      rcases hL.pnd j o' (lt_or hj e) ho' hw hej with hall | ⟨p, hmem, himp⟩ | hle2
      · exact .inl hall
      · exact .inr (.inl ⟨p, hsub _ hmem, himp⟩)
      · exact .inr (.inr (by rw [hc]; omega))

theorem vGuard_ex {ops : List Oper} {g : Option (Nat × Bool)} {st : St} {run skip : Prop} (h : vGuard ops g st run skip) : ∃ w, guardIs ops g st.N st.slots w ∧ (w = true → run) ∧ (w = false → skip) := by
  unfold vGuard at h
  unfold guardIs
  split at h
  · exact ⟨true, rfl, fun _ => h, fun e => (by cases e)⟩
  · rename_i j want
    simp only
    split at h
    · exact h.elim
    · rename_i t ht
      obtain ⟨hlt, h⟩ := h
      split at h
      · rename_i b hb
        refine ⟨b == want, ⟨t, ht, hlt, .inl ⟨b, hb, rfl⟩⟩, fun e => h.1 (by simpa using e), fun e => h.2 (by simpa using e)⟩
      · rename_i vs hb
        exact ⟨false, ⟨t, ht, hlt, .inr ⟨⟨vs, hb⟩, rfl⟩⟩, fun e => (by cases e), fun _ => h⟩
      · exact h.elim

theorem vcDr_lex {ops : List Oper} {info : List (Bool × Nat × Nat)} {n : Nat} {st : St} {K : List (Nat × AVal) → Heap2 → Prop} : ∀ (rest : List Oper) (i : Nat) {R : Nat → AVal} {W : Nat → Bool} {Hp : Nat → Heap2} {h : Heap2} {past : List Heap2} {pend : List (Nat × (Heap2 → Prop))}
    (_ : ∀ k, rest[k]? = ops[i + k]?) (_ : i + rest.length = ops.length) (_ : LexTo P E ops info n st i R W Hp h past pend) (_ : vcDr P E ops info n st.N i rest (lexSl ops R st.slots i) h past pend K),
    ∃ R W Hp, Lex P E ops info n st R W Hp ∧ K (lexSl ops R st.slots ops.length) (Hp (cntE info ops.length))
  | [], i, R, W, Hp, h, past, pend, hr, hlen, hL, hv => by
    have hi : i = ops.length := by simpa using hlen
    subst hi
    have lt : ∀ {j : Nat} {o : Oper}, ops[j]? = some o → j < ops.length := fun h => (List.getElem?_eq_some_iff.1 h).1
    refine ⟨R, W, Hp, ⟨hL.h0, hL.hb, fun j o ho => hL.dstN j o (lt ho) ho, fun j o ho => hL.guard j o (lt ho) ho, fun j o ho => hL.skip j o (lt ho) ho, fun j o ho => hL.eff j o (lt ho) ho, fun j o ho => hL.pure j o (lt ho) ho⟩, ?_⟩
    rw [hL.cur]; exact hv
  | o :: rest, i, R, W, Hp, h, past, pend, hr, hlen, hL, hv => by
    have ho : ops[i]? = some o := by have := hr 0; simpa using this.symm
    have hr' : ∀ k, rest[k]? = ops[(i + 1) + k]? := fun k => by
      have := hr (k + 1)
      rw [show i + 1 + k = i + (k + 1) by omega, ← this]; simp
    have hlen' : i + 1 + rest.length = ops.length := by simp at hlen; omega
    have next : ∀ (r : AVal), lexSl ops (fun j => if j = i then r else R j) st.slots (i + 1) = putS (lexSl ops R st.slots i) o.dst r := fun r => by
      show (match (ops[i]?).bind (·.dst) with | none => lexSl ops _ st.slots i | some t => (t, if i = i then r else R i) :: lexSl ops _ st.slots i) = _
      rw [lexSl_upd i (Nat.le_refl i), ho, if_pos rfl]
      show (match o.dst with | none => _ | some t => _) = _
      unfold putS
      cases o.dst <;> rfl
    have hn : h.1.length = n := by rw [← hL.cur]; exact hL.hb _ (Nat.le_refl _)
    unfold vcDr at hv
    obtain ⟨hd, hv⟩ := hv
    obtain ⟨w, hg, hrun, hskip⟩ := vGuard_ex hv
    cases w with
    | false =>
      have hs := hskip rfl
      cases hei : effI info i with
      | true =>
        rw [hei] at hs
        obtain ⟨hp, hs⟩ := hs
        have h2 := hL.step ho (r := .v undef) (w := false) (h' := h) (pend' := pend) hd hg (fun _ => ⟨rfl, rfl⟩) (fun e => (by cases e)) (fun _ => rfl) (fun e => (by cases e)) hn (fun _ => by rw [← hL.plen]; exact hp) (fun _ h => h)
        rw [if_pos hei] at h2
        exact vcDr_lex rest (i + 1) hr' hlen' h2 (by rw [next]; exact hs)
      | false =>
        rw [hei] at hs
        have h2 := hL.step ho (r := .v undef) (w := false) (h' := h) (pend' := pend) hd hg (fun _ => ⟨rfl, rfl⟩) (fun e => (by cases e)) (fun _ => rfl) (fun e => (by cases e)) hn (fun e => by rw [hei] at e; cases e) (fun _ h => h)
        rw [if_neg (by rw [hei]; exact Bool.false_ne_true)] at h2
        exact vcDr_lex rest (i + 1) hr' hlen' h2 (by rw [next]; exact hs)
    | true =>
      have hs := hrun rfl
      cases hip : isPure o.op with
      | true =>
        rw [hip] at hs
        obtain ⟨hei, hop⟩ := hs
        obtain ⟨r, hk, hall⟩ := vcOp_pure hip hop
        have h2 := hL.step ho (r := r) (w := true) (h' := h) (pend' := pend) hd hg (fun e => (by cases e)) (fun _ e => by rw [hei] at e; cases e) (fun _ => rfl) (fun _ _ => ⟨fun m _ _ => hall (Hp m), .inl hall⟩) hn (fun e => by rw [hei] at e; cases e) (fun _ h => h)
        rw [if_neg (by rw [hei]; exact Bool.false_ne_true)] at h2
        exact vcDr_lex rest (i + 1) hr' hlen' h2 (by rw [next]; exact hk)
      | false =>
        rw [hip] at hs
        cases hei : effI info i with
        | true =>
          rw [hei] at hs
          obtain ⟨r, b, l, ⟨hbn, hpe, hk⟩, hok⟩ := vcE_ex hs
          have h2 := hL.step ho (r := r) (w := true) (h' := (b, l)) (pend' := pend) hd hg (fun e => (by cases e)) (fun _ _ => hok) (fun e => by rw [hei] at e; cases e) (fun _ e => by rw [hei] at e; cases e) hbn (fun _ => by rw [← hL.plen]; exact hpe) (fun _ h => h)
          rw [if_pos hei] at h2
          exact vcDr_lex rest (i + 1) hr' hlen' h2 (by rw [next]; exact hk)
        | false =>
          rw [hei] at hs
          obtain ⟨r, b, l, ⟨⟨hb, hl⟩, hpa, hk⟩, hok⟩ := vcE_ex hs
          have hbl : (b, l) = h := by rw [hb, hl]
          rw [hbl] at hok
          have h2 := hL.step ho (r := r) (w := true) (h' := h) (pend' := if hiI info i ≤ past.length then pend else (hiI info i, fun h' => OpOK P E o.op ⟨st.N, lexSl ops R st.slots i, h'.1, h'.2⟩ r h') :: pend) hd hg (fun e => (by cases e)) (fun _ e => by rw [hei] at e; cases e) (fun _ => rfl)
            (fun _ _ => ⟨fun m hlo hm => by
              rcases Nat.lt_or_ge m (cntE info i) with hlt | hge
              · exact pastOk_get hpa (by rw [hL.plen]; exact hL.pst m hlt) (by rw [hL.plen]; exact hlt) hlo
              · have : m = cntE info i := by omega
                subst this; rw [hL.cur]; exact hok, by
                  by_cases hq : hiI info i ≤ past.length
                  · exact .inr (.inr (by rw [← hL.plen]; exact hq))
                  · rw [if_neg hq]; exact .inr (.inl ⟨_, List.mem_cons_self, fun _ h => h⟩)⟩) hn (fun e => by rw [hei] at e; cases e) (fun _ h => by
              by_cases hq : hiI info i ≤ past.length
              · rw [if_pos hq]; exact h
              · rw [if_neg hq]; exact List.mem_cons_of_mem _ h)
          rw [if_neg (by rw [hei]; exact Bool.false_ne_true)] at h2
          exact vcDr_lex rest (i + 1) hr' hlen' h2 (by rw [next]; exact hk)

section
variable {n : Nat} {Q : Exit → St → Prop} {st : St}
/-- A REGION THAT DRAWS ITS ORDER. -/
theorem AW.dregion (hE : EnvOk P E) (hm : P.follows .mixedOrders = true) {id : Nat} {l : List Oper} (info : List (Bool × Nat × Nat)) (hchk : drawChk l info = true) (hn : st.base.length = n)
    (h : ∀ K : List (Nat × AVal) → Heap2 → Prop, (∀ sl h', Q .normal ⟨st.N, sl, h'.1, h'.2⟩ → K sl h') → vcDr P E l info n st.N 0 l st.slots (st.base, st.loc) [] [] K) : AW P n (.region id l.toArray true) Q st := by
  intro c a w hst
  have h0 := h _ (fun _ _ h => h)
  have hL0 : LexTo P E l info n st 0 (fun _ => .junk) (fun _ => false) (fun _ => (st.base, st.loc)) (st.base, st.loc) [] [] :=
    ⟨rfl, rfl, rfl, fun q h => (by simp [cntE] at h), fun _ _ => hn, fun j _ h => absurd h (by omega), fun j _ h => absurd h (by omega), fun j _ h => absurd h (by omega), fun j _ h => absurd h (by omega), fun j _ h => absurd h (by omega), fun j _ h => absurd h (by omega)⟩
  obtain ⟨R, W, Hp, hL, hK⟩ := vcDr_lex l 0 (fun k => by rw [Nat.zero_add]) (by simp) hL0 h0
  refine wp_region_any hm ?_
  have hD := drawChk_ok hchk
  have hI : DInv l info c st R Hp (Array.replicate l.toArray.size false) a { w with drawn := w.drawn + 1 } := by
    have hf : ∀ i, (Array.replicate l.toArray.size false).getD i false = false := fun i => by
      simp only [Array.getD, Array.size_replicate]
      split <;> simp
    refine ⟨by simp, fun i o j _ hl => (by rw [hf] at hl; cases hl), c, 0, .refl c, fun i _ _ => (by rw [hf]; simp), Nat.zero_le _, hst.defers, hst.size, ?_, fun t => ?_⟩
    · rw [hL.h0]; exact hst.heap.drew
    · have := hst.slots t
      cases hw : writer l t with
      | none => exact this
      | some j => simp only [hf, Bool.false_eq_true, if_false]; exact this
  refine dinv_any hE hD hL (fun c' a' w' he hr => ⟨c', _, he.toB n, hr, hK⟩) _ _ _ _ hI (by simp)
theorem AW.dreg (hE : EnvOk P E) (hm : P.follows .mixedOrders = true) {id : Nat} {l : List Oper} {y : Code} (info : List (Bool × Nat × Nat)) (hchk : drawChk l info = true) (hn : st.base.length = n)
    (h : ∀ K : List (Nat × AVal) → Heap2 → Prop, (∀ sl h', AW P n y Q ⟨st.N, sl, h'.1, h'.2⟩ → K sl h') → vcDr P E l info n st.N 0 l st.slots (st.base, st.loc) [] [] K) : AW P n (.seq (.region id l.toArray true) y) Q st :=
  AW.seq (AW.dregion hE hm info hchk hn h)
end

end Go.Eng

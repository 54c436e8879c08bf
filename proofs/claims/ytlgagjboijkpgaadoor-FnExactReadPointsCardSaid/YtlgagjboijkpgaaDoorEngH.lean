/- The engine, part H: all operations in one; regions; code; functions. -/
import Derived.Test.YtlgagjboijkpgaaDoorEngP
set_option linter.unusedSimpArgs false
set_option linter.unusedVariables false
namespace Go.Eng
variable {P : Program} {E : Env}

/-- A CONTRACT: called with such arguments over such boxes, the function returns such a result over such boxes. -/
def AC (P : Program) (f : FuncId) (args : List AVal) (H : List ABox) (R : AVal → List ABox → Prop) : Prop :=
  (∃ fn, P.funcs[f]? = some fn ∧ fn.body.isNone = false ∧ (fn.name == "runtime.NumGoroutine") = false) ∧
  ∀ c vs w, RelCs c args vs → RelH c H w → Calls P f vs.toArray w (fun e w' => ∃ c' r v H', Ext c c' ∧ e = .returned v ∧ RelV c' r v ∧ RelH c' H' w' ∧ R r H')

theorem AC.mono {f : FuncId} {args : List AVal} {H : List ABox} {R R' : AVal → List ABox → Prop} (h : AC P f args H R) (hr : ∀ r H', R r H' → R' r H') : AC P f args H R' :=
  ⟨h.1, fun c vs w hv hh => (h.2 c vs w hv hh).mono fun e w' ⟨c', r, v, H', h1, h2, h3, h4, h5⟩ => ⟨c', r, v, H', h1, h2, h3, h4, hr _ _ h5⟩⟩

def vCall (P : Program) (fv : AVal) (args : List AVal) (st : St) (k : AVal → List ABox → List ABox → Prop) : Prop :=
  match fv with
  | .fn f cap => AC P f (args ++ cap) (st.base ++ st.loc) (fun r H' => ∃ b l, H' = b ++ l ∧ b.length = st.base.length ∧ k r b l)
  | _ => False

def vcCall (P : Program) (E : Env) (c : Callee) (args : List Operand) (ts : List TypeId) (st : St) (k : AVal → List ABox → List ABox → Prop) : Prop :=
  match c, args, ts with
  | .value f, args, _ => vCall P (st.ev f) (args.map st.ev) st k
  | .builtin .len, [x], [T] => vLen E T (st.ev x) (fun r => k r st.base st.loc)
  | .builtin .append, [x, y], [T, T'] => T = T' ∧ vAppend E T st (st.ev x) (st.ev y) k
  | .builtin .max, [x, y], _ => vMin true (st.ev x) (st.ev y) (fun r => k r st.base st.loc)
  | .builtin .min, [x, y], _ => vMin false (st.ev x) (st.ev y) (fun r => k r st.base st.loc)
  | _, _, _ => False

def vcOp (P : Program) (E : Env) (op : Op) (st : St) (k : AVal → List ABox → List ABox → Prop) : Prop :=
  match op with
  | .move x => k (st.ev x) st.base st.loc
  | .assign x => k (st.ev x) st.base st.loc
  | .pick c a b => vPick (st.ev c) (st.ev a) (st.ev b) (fun r => k r st.base st.loc)
  | .alloc T => vAlloc E T st k
  | .box _ x => vBox st (st.ev x) k
  | .build T ps => vBuild E T (partsA st ps.toList) (fun r => k r st.base st.loc)
  | .buildSlice T len ps => vBuildSl E T len st (partsA st ps.toList) k
  | .load T x => vLoad E T st (st.ev x) (fun r => k r st.base st.loc)
  | .store T x y => vStore E T st (st.ev x) (st.ev y) (fun b l => k (.v undef) b l)
  | .nilCheck x => vNil (st.ev x) (fun r => k r st.base st.loc)
  | .binOp op T x y _ => vBin E op T (isC x || isC y) (st.ev x) (st.ev y) (fun r => k r st.base st.loc)
  | .unOp op _ x => vUn op (st.ev x) (fun r => k r st.base st.loc)
  | .convert s d x => vConv E s d (st.ev x) (fun r => k r st.base st.loc)
  | .makeFunc (.func f) first cap => first.toList = [] ∧ k (.fn f (cap.toList.map st.ev)) st.base st.loc
  | .makeSlice T x y => vMake E T st (st.ev x) (st.ev y) k
  | .slice T x lo hi none => vSlice E T (st.ev x) (lo.map st.ev) (hi.map st.ev) (fun r => k r st.base st.loc)
  | .fieldAddr T x f => vFldA E T f (st.ev x) (fun r => k r st.base st.loc)
  | .indexAddr T x i => vIdxA E T (st.ev x) (st.ev i) (fun r => k r st.base st.loc)
  | .index T x i => vIdx E T (st.ev x) (st.ev i) (fun r => k r st.base st.loc)
  | .extract x i => vExt (st.ev x) i (fun r => k r st.base st.loc)
  | .makeMap T none => vMakeMap E T st k
  | .lookup T x i ok => vLookup E T st (st.ev x) (st.ev i) ok (fun r => k r st.base st.loc)
  | .mapUpdate T x i y => vMapUpd E T st (st.ev x) (st.ev i) (st.ev y) (fun b l => k (.v undef) b l)
  | .mapEntry T x i => vMapEnt E T st (st.ev x) (st.ev i) k
  | .entryStore T x i y => vEntSt st (st.ev x) (st.ev i) (st.ev y) (fun b l => k (.v undef) b l)
  | .range T x => vRange E T st (st.ev x) k
  | .next x false => vNext st (st.ev x) k
  | .entry x => vEntry st (st.ev x) (fun r => k r st.base st.loc)
  | .call c => vcCall P E c.callee c.args.toList c.argTypes.toList st k
  | _ => False

theorem vNil_ok {X : AVal} {k : AVal → Prop} (hk : vNil X k) {c : Ctx} {u : Value} (hx : RelV c X u) {a : Act} {w : World} {o : Oper} {x : Operand} (ho : o.op = .nilCheck x) (hu : a.eval x = u) :
    (execOp a.eval o).run P w = .ok (.value u) w ∧ k X := by
  unfold vNil at hk
  split at hk
  · cases hx with
    | ptr h => exact ⟨by simp [execOp, ho, hu], hk⟩
  · cases hx with
    | rp g h hc hr => exact ⟨by simp [execOp, ho, hu], hk⟩
  · cases hx with
    | fn hl h => exact ⟨by simp [execOp, ho, hu], hk⟩
  · exact hk.elim

theorem RelSt.args {n : Nat} {c : Ctx} {st : St} {a : Act} {w : World} (hst : RelSt n c st a w) (l : List Operand) : RelCs c (l.map st.ev) (l.map a.eval) :=
  ⟨by simp, fun i hi => by
    have hi' : i < l.length := by simpa using hi
    simp only [List.getD, List.getElem?_map, List.getElem?_eq_getElem hi', Option.map_some, Option.getD_some]
    exact hst.ev _⟩

theorem RelCs.append {c : Ctx} {as bs : List AVal} {us vs : List Value} (h : RelCs c as us) (k : RelCs c bs vs) : RelCs c (as ++ bs) (us ++ vs) := by
  refine ⟨by simp [h.1, k.1], fun i hi => ?_⟩
  have hl := h.1
  by_cases hlt : i < as.length
  · have e1 : (as ++ bs).getD i .junk = as.getD i .junk := by simp only [List.getD]; rw [List.getElem?_append_left hlt]
    rw [e1, getD_app_left (by omega)]; exact h.2 i hlt
  · have e1 : (as ++ bs).getD i .junk = bs.getD (i - as.length) .junk := by simp only [List.getD]; rw [List.getElem?_append_right (by omega)]
    rw [e1, getD_app_right (by omega), hl]
    simp at hi
    exact k.2 _ (by omega)

theorem vCall_ok {n : Nat} {c : Ctx} {st : St} {a : Act} {w : World} (hst : RelSt n c st a w) {o : Oper} {cl : Call} {f : Operand} (ho : o.op = .call cl) (hf : cl.callee = .value f) {k : AVal → List ABox → List ABox → Prop}
    (hk : vCall P (st.ev f) (cl.args.toList.map st.ev) st k) {K : Act → World → Prop} {Q : Exit → Act → World → Prop}
    (hK : ∀ c' v w' r b l, Ext c c' → RelV c' r v → RelH c' (b ++ l) w' → b.length = n → k r b l → K (a.put o.dst v) w') : o.wp P a w K Q := by
  have hfv := hst.ev f
  unfold vCall at hk
  split at hk
  · rename_i g cap hg
    rw [hg] at hfv
    generalize hfe : a.eval f = fe at hfv
    cases hfv with
    | @fn _ _ vs hl hcap =>
      obtain ⟨⟨fn, h1, h2, h3⟩, hcall⟩ := hk
      have hargs := (hst.args cl.args.toList).append (⟨hl.symm, hcap⟩ : RelCs c cap vs)
      have hrun : (execOp a.eval o).run P w = .ok (.enter g (cl.args.map a.eval ++ vs.toArray)) w := by
        have h2' : ¬ fn.body.isNone = true := by rw [h2]; exact Bool.false_ne_true
        have h3' : ¬ (fn.name == "runtime.NumGoroutine") = true := by rw [h3]; exact Bool.false_ne_true
        simp only [execOp, ho, resolve, hf, hfe, Deferred.ofValue, invoke, callFunc, Sem.run_bind, Sem.run_pure, Result.andThen_ok, run_program, h1, if_neg h3', if_neg h2']
        simp
      unfold Oper.wp
      rw [hrun]
      have harr : (cl.args.map a.eval ++ vs.toArray) = (cl.args.toList.map a.eval ++ vs).toArray := by
        apply Array.ext'; simp
      show Calls P g (cl.args.map a.eval ++ vs.toArray) w _
      rw [harr]
      refine (hcall c _ w hargs hst.heap).mono ?_
      rintro e w' ⟨c', r, v, H', he, rfl, hr, hh, b, l, rfl, hb, hkk⟩
      exact hK c' v w' r b l he hr hh (hb.trans hst.hn) hkk
  · exact hk.elim

theorem vcOp_ok (hE : EnvOk P E) {n : Nat} {c : Ctx} {st : St} {a : Act} {w : World} (hst : RelSt n c st a w) {o : Oper} {k : AVal → List ABox → List ABox → Prop} (hk : vcOp P E o.op st k)
    {K : Act → World → Prop} {Q : Exit → Act → World → Prop} (hK : ∀ c' v w' r b l, Ext c c' → RelV c' r v → RelH c' (b ++ l) w' → b.length = n → k r b l → K (a.put o.dst v) w') : o.wp P a w K Q := by
  obtain ⟨dst, op, ty, pos, after, guard⟩ := o
  have value : ∀ {s : Sem Value} {k' : AVal → Prop}, (∃ z r, s.run P w = .ok z w ∧ RelV c r z ∧ k' r) → (∀ r, k' r → k r st.base st.loc) →
      (∀ z, s.run P w = .ok z w → (execOp a.eval ⟨dst, op, ty, pos, after, guard⟩).run P w = .ok (.value z) w) → Oper.wp P ⟨dst, op, ty, pos, after, guard⟩ a w K Q := by
    rintro s k' ⟨z, r, h1, h2, h3⟩ hk' hx
    exact wp_value (hx z h1) (hK c z w r st.base st.loc (.refl c) h2 hst.heap hst.hn (hk' r h3))
  have made : ∀ {s : Sem Value}, (∃ z w' c' r b l, s.run P w = .ok z w' ∧ Ext c c' ∧ RelV c' r z ∧ RelH c' (b ++ l) w' ∧ b.length = n ∧ k r b l) →
      (∀ z w', s.run P w = .ok z w' → (execOp a.eval ⟨dst, op, ty, pos, after, guard⟩).run P w = .ok (.value z) w') → Oper.wp P ⟨dst, op, ty, pos, after, guard⟩ a w K Q := by
    rintro s ⟨z, w', c', r, b, l, h1, h2, h3, h4, h5, h6⟩ hx
    exact wp_value (hx z w' h1) (hK c' z w' r b l h2 h3 h4 h5 h6)
  unfold vcOp at hk
  split at hk
  · exact wp_value (by rename_i heq; simp at heq; subst heq; simp [execOp]) (hK c _ w _ _ _ (.refl c) (hst.ev _) hst.heap hst.hn hk)
  · exact wp_value (by rename_i heq; simp at heq; subst heq; simp [execOp]) (hK c _ w _ _ _ (.refl c) (hst.ev _) hst.heap hst.hn hk)
  · rename_i cc aa bb heq
    simp at heq; subst heq
    have hc := hst.ev cc
    unfold vPick at hk
    split at hk
    · rename_i t ht
      rw [ht] at hc
      have hc' := hc.v_inv
      cases t with
      | true => exact wp_value (v := a.eval aa) (w' := w) (by simp [execOp, hc', asBool]) (hK c _ w _ _ _ (.refl c) (hst.ev _) hst.heap hst.hn (hk.1 rfl))
      | false => exact wp_value (v := a.eval bb) (w' := w) (by simp [execOp, hc', asBool]) (hK c _ w _ _ _ (.refl c) (hst.ev _) hst.heap hst.hn (hk.2 rfl))
    · exact hk.elim
  · rename_i heq; simp at heq; subst heq
    exact made (vAlloc_ok hE hk hst) (fun z w' h => by simp [execOp, h])
  · rename_i heq; simp at heq; subst heq
    rename_i T x
    exact made (vBox_ok (T := T) hk hst (hst.ev _)) (fun z w' h => by simp [execOp, h])
  · rename_i heq; simp at heq; subst heq
    exact value (vBuild_ok hE hk hst) (fun _ h => h) (fun z h => by simp only [execOp, Sem.run_bind, h]; rfl)
  · rename_i heq; simp at heq; subst heq
    exact made (vBuildSl_ok hE hk hst) (fun z w' h => by simp only [execOp, Sem.run_bind, h]; rfl)
  · rename_i heq; simp at heq; subst heq
    exact value (vLoad_ok hE hk hst (hst.ev _)) (fun _ h => h) (fun z h => by simp [execOp, h])
  · rename_i T x y heq; simp at heq; subst heq
    obtain ⟨w', b, l, h1, h2, h3, h4⟩ := vStore_ok hE hk hst (hst.ev _) (hst.ev _)
    unfold Oper.wp
    have hrun : (execOp a.eval ⟨dst, .store T x y, ty, pos, after, guard⟩).run P w = .ok .skip w' := by simp only [execOp, Sem.run_bind, h1]; rfl
    rw [hrun]
    exact hK c undef w' _ b l (.refl c) (.v _) h2 h3 h4
  · rename_i x heq; simp at heq; subst heq
    obtain ⟨h1, h2⟩ := vNil_ok (P := P) hk (hst.ev _) (a := a) (w := w) (o := ⟨dst, .nilCheck x, ty, pos, after, guard⟩) rfl rfl
    exact wp_value h1 (hK c _ w _ _ _ (.refl c) (hst.ev _) hst.heap hst.hn h2)
  · rename_i heq; simp at heq; subst heq
    exact value (vBin_ok hE hk (hst.ev _) (hst.ev _) w) (fun _ h => h) (fun z h => by simp only [execOp]; rw [Sem.run_bind, h]; rfl)
  · rename_i heq; simp at heq; subst heq
    exact value (vUn_ok hk (hst.ev _) w) (fun _ h => h) (fun z h => by simp [execOp, h])
  · rename_i heq; simp at heq; subst heq
    exact value (vConv_ok hE hk (hst.ev _) hst.heap) (fun _ h => h) (fun z h => by simp [execOp, h])
  · rename_i f first cap heq; simp at heq; subst heq
    obtain ⟨hf, hk⟩ := hk
    have hf' : first = #[] := by simpa using hf
    subst hf'
    have hca := hst.args cap.toList
    exact wp_value (v := .func (.func f) #[] (cap.map a.eval)) (w' := w) (by simp [execOp, Instr.makeFunc])
      (hK c _ w _ _ _ (.refl c) (by have := RelV.fn (c := c) (f := f) hca.1.symm hca.2; rwa [show (cap.toList.map a.eval).toArray = cap.map a.eval from by apply Array.ext'; simp] at this) hst.heap hst.hn hk)
  · rename_i heq; simp at heq; subst heq
    exact made (vMake_ok hE hk hst (hst.ev _) (hst.ev _)) (fun z w' h => by simp [execOp, h])
  · rename_i heq; simp at heq; subst heq
    exact value (vSlice_ok hE hk hst (hst.ev _)) (fun _ h => h) (fun z h => by simp [execOp, h])
  · rename_i heq; simp at heq; subst heq
    exact value (vFldA_ok hE hk (hst.ev _) w) (fun _ h => h) (fun z h => by simp [execOp, h])
  · rename_i heq; simp at heq; subst heq
    exact value (vIdxA_ok hE hk hst (hst.ev _) (hst.ev _)) (fun _ h => h) (fun z h => by simp [execOp, h])
  · rename_i heq; simp at heq; subst heq
    exact value (vIdx_ok hE hk (hst.ev _) (hst.ev _) w) (fun _ h => h) (fun z h => by simp [execOp, h])
  · rename_i heq; simp at heq; subst heq
    exact value (vExt_ok hk (hst.ev _) w) (fun _ h => h) (fun z h => by simp [execOp, h])
  · rename_i heq; simp at heq; subst heq
    exact made (vMakeMap_ok hk hst) (fun z w' h => by simp [execOp, h])
  · rename_i heq; simp at heq; subst heq
    exact value (vLookup_ok hE hk hst (hst.ev _) (hst.ev _)) (fun _ h => h) (fun z h => by simp [execOp, h])
  · rename_i T x i y heq; simp at heq; subst heq
    obtain ⟨w', b, l, h1, h2, h3, h4⟩ := vMapUpd_ok hE hk hst (hst.ev _) (hst.ev _) (hst.ev _)
    unfold Oper.wp
    have hrun : (execOp a.eval ⟨dst, .mapUpdate T x i y, ty, pos, after, guard⟩).run P w = .ok .skip w' := by simp only [execOp, Sem.run_bind, h1]; rfl
    rw [hrun]
    exact hK c undef w' _ b l (.refl c) (.v _) h2 h3 h4
  · rename_i heq; simp at heq; subst heq
    exact made (vMapEnt_ok hE hk hst (hst.ev _) (hst.ev _)) (fun z w' h => by simp [execOp, h])
  · rename_i T x i y heq; simp at heq; subst heq
    obtain ⟨w', b, l, h1, h2, h3, h4⟩ := vEntSt_ok (P := P) (T := T) hk hst (hst.ev _) (hst.ev _) (hst.ev _)
    unfold Oper.wp
    have hrun : (execOp a.eval ⟨dst, .entryStore T x i y, ty, pos, after, guard⟩).run P w = .ok .skip w' := by simp only [execOp, Sem.run_bind, h1]; rfl
    rw [hrun]
    exact hK c undef w' _ b l (.refl c) (.v _) h2 h3 h4
  · rename_i heq; simp at heq; subst heq
    exact made (vRange_ok hE hk hst (hst.ev _)) (fun z w' h => by simp [execOp, h])
  · rename_i heq; simp at heq; subst heq
    exact made (vNext_ok hk hst (hst.ev _) ty) (fun z w' h => by simp [execOp, h])
  · rename_i heq; simp at heq; subst heq
    exact value (vEntry_ok hk hst (hst.ev _)) (fun _ h => h) (fun z h => by simp [execOp, h])
  · rename_i cl heq; simp at heq; subst heq
    obtain ⟨callee, args, ts⟩ := cl
    have arr1 : ∀ {α : Type} {l : Array α} {x : α}, l.toList = [x] → l = #[x] := fun h => by apply Array.ext'; simpa using h
    have arr2 : ∀ {α : Type} {l : Array α} {x y : α}, l.toList = [x, y] → l = #[x, y] := fun h => by apply Array.ext'; simpa using h
    cases callee with
    | invoke r m => simp [vcCall] at hk
    | value f => exact vCall_ok hst rfl rfl hk hK
    | builtin b =>
      rcases hA : args.toList with _ | ⟨x, _ | ⟨y, _ | ⟨y2, rest⟩⟩⟩
      · cases b <;> simp [vcCall, hA] at hk
      · cases b <;> simp only [vcCall, hA] at hk
        case len =>
          rcases hT : ts.toList with _ | ⟨T, _ | ⟨T', rest⟩⟩ <;> simp only [hT] at hk
          have := arr1 hA; subst this
          have := arr1 hT; subst this
          exact value (vLen_ok hE (ty := ty) hk (hst.ev _) w) (fun _ h => h) (fun z h => by simp [execOp, resolve, invoke, builtin, h])
      · cases b <;> simp only [vcCall, hA] at hk
        case append =>
          rcases hT : ts.toList with _ | ⟨T, _ | ⟨T', _ | ⟨T2, rest⟩⟩⟩ <;> simp only [hT] at hk
          have := arr2 hA; subst this
          have := arr2 hT; subst this
          obtain ⟨rfl, hk⟩ := hk
          exact made (vAppend_ok hE (ty := ty) hk hst (hst.ev _) (hst.ev _)) (fun z w' h => by simp [execOp, resolve, invoke, builtin, h])
        case max =>
          have := arr2 hA; subst this
          have := vMin_ok (P := P) (ts := ts) (ty := ty) hk (hst.ev _) (hst.ev _) w
          exact value this (fun _ h => h) (fun z h => by simp at h; simp [execOp, resolve, invoke, builtin, h])
        case min =>
          have := arr2 hA; subst this
          have := vMin_ok (P := P) (ts := ts) (ty := ty) hk (hst.ev _) (hst.ev _) w
          exact value this (fun _ h => h) (fun z h => by simp at h; simp [execOp, resolve, invoke, builtin, h])
      · cases b <;> simp [vcCall, hA] at hk
  · exact hk.elim

end Go.Eng

/- Texts of this seat that the law stands on, put together. No conditions. -/
import Derived.Below
import Derived.Lib.ItoaMem
import Derived.Test.YtmkcahfhnehanaaDoorWl11
section
set_option linter.unusedSimpArgs false
set_option linter.unusedVariables false
namespace Go.Eng
open Go.ChangeShapes Go.WideShapes Go.RowKit
variable {P : Program} {E : Env}
/-- Below the heap's end all is as it was: what was known is known. -/
theorem RelH.below {c : Ctx} {H : List ABox} {w w' : World} (h : RelH c H w) (hb : Below w.heap.size w w') : RelH c H w' := by
  have same : ∀ b, b < w.heap.size → w'.heap[b]? = w.heap[b]? := hb.block
  refine ⟨hb.os.trans h.os, hb.tape.trans h.tape, hb.output.trans h.output, fun b o ho => ?_, h.dom, fun k X hk hX => ?_, h.inj⟩
  · have h1 := h.sealed b o ho
    rw [same b (Array.getElem?_eq_some_iff.1 h1).1]; exact h1
  · obtain ⟨l, hl, hB⟩ := h.box k X hk hX
    exact ⟨l, hl, hB.carry (.refl c) (fun _ => same _ (hB.blk_lt hX)) (fun _ => rfl)⟩
theorem AC.lib1 {f : FuncId} {args : List AVal} {H : List ABox} {X : AVal} (hf : ∃ fn, P.funcs[f]? = some fn ∧ fn.body.isNone = false ∧ (fn.name == "runtime.NumGoroutine") = false)
    (h : ∀ c vs w, RelCs c args vs → RelH c H w → Calls P f vs.toArray w fun e w' => ∃ v, e = .returned v ∧ RelV c X v ∧ Below w.heap.size w w') :
    AC P f args H (fun r H' => r = X ∧ H' = H) :=
  ⟨hf, fun c vs w hv hh => (h c vs w hv hh).mono fun e w' ⟨v, h2, h3, h4⟩ => ⟨c, X, v, H, .refl c, h2, h3, hh.below h4, rfl, rfl⟩⟩
/-- What a table's box says. -/
theorem RelH.tab {c : Ctx} {H : List ABox} {w : World} (h : RelH c H w) {k g : Nat} {o : Obj} (hk : H[k]? = some (.tab g o)) : w.heap[g]? = some o := by
  obtain ⟨l, hl, h1, h2, h3⟩ := h.box k _ hk rfl
  rw [← h1]; exact h3
theorem RelCs.args2 {c : Ctx} {a b : AVal} {vs : List Value} (h : RelCs c [a, b] vs) : ∃ x y, vs = [x, y] ∧ RelV c a x ∧ RelV c b y := by
  obtain ⟨h1, h2⟩ := h
  match vs, h1 with
  | [x, y], _ => exact ⟨x, y, rfl, h2 0 (by simp), h2 1 (by simp)⟩
/-! ### A law that reads tables -/
/-- All blocks sealed; the tables have numbers. -/
def Ctx.allT (w : World) (gs : List Nat) : Ctx := ⟨w.os, w.tape, w.output, fun b => w.heap[b]?, fun k => (gs[k]?).map fun g => ⟨g, 0, 0⟩⟩
theorem Ctx.allT_rel (w : World) {ts : List (Nat × Obj)} (h : ∀ t ∈ ts, w.heap[t.1]? = some t.2) (hn : (ts.map (·.1)).Nodup) : RelH (Ctx.allT w (ts.map (·.1))) (ts.map fun t => .tab t.1 t.2) w := by
  have hg : ∀ (k : Nat) (l : Loc), (Ctx.allT w (ts.map (·.1))).loc k = some l → ∃ t, ts[k]? = some t ∧ l = ⟨t.1, 0, 0⟩ := fun k l hl => by
    have hl' : ((ts.map (·.1))[k]?).map (fun g => (⟨g, 0, 0⟩ : Loc)) = some l := hl
    rw [List.getElem?_map] at hl'
    cases e : ts[k]? with
    | none => rw [e] at hl'; simp at hl'
    | some t => rw [e] at hl'; simp at hl'; exact ⟨t, rfl, hl'.symm⟩
  refine ⟨rfl, rfl, rfl, fun b o hb => hb, fun k hk => ?_, fun k X hk hX => ?_, ?_⟩
  · show ((ts.map (·.1))[k]?).map _ = none
    rw [List.getElem?_eq_none (by simpa using hk)]; rfl
  · rw [List.getElem?_map, Option.map_eq_some_iff] at hk
    obtain ⟨t, h1, rfl⟩ := hk
    refine ⟨⟨t.1, 0, 0⟩, ?_, rfl, h t (List.mem_of_getElem? h1), h t (List.mem_of_getElem? h1)⟩
    show ((ts.map (·.1))[k]?).map _ = _
    rw [List.getElem?_map, h1]; rfl
  · intro k k' l l' X X' hk hX hk' hX' hl hl' hb
    obtain ⟨t, h1, rfl⟩ := hg k l hl
    obtain ⟨t', h1', rfl⟩ := hg k' l' hl'
    have e1 : (ts.map (·.1))[k]? = some t.1 := by rw [List.getElem?_map, h1]; rfl
    have e2 : (ts.map (·.1))[k']? = some t'.1 := by rw [List.getElem?_map, h1']; rfl
    have hb' : t.1 = t'.1 := hb
    rw [← hb'] at e2
    exact (List.getElem?_inj (List.getElem?_eq_some_iff.1 e1).1 hn).1 (e1.trans e2.symm)
theorem RelV.all_to {w : World} {gs : List Nat} {a : AVal} {v : Value} (h : RelV (Ctx.all w) a v) : RelV (Ctx.allT w gs) a v := by
  have he : Ext (Ctx.all w) (Ctx.allT w gs) := ⟨⟨rfl, rfl, rfl, fun _ _ h => h⟩, fun k l hk => by cases (show (none : Option Loc) = some l from hk)⟩
  exact h.ext he
theorem law_ofT {f : FuncId} {args : List AVal} {ts : List (Nat × Obj)} (h : AC P f args (ts.map fun t => .tab t.1 t.2) (fun r _ => r = .v (.bool true))) (hn : (ts.map (·.1)).Nodup) {vs : Array Value} {w : World}
    (ht : ∀ t ∈ ts, w.heap[t.1]? = some t.2) (hv : RelCs (Ctx.all w) args vs.toList) :
    Calls P f vs w fun e w' => e = .returned (.bool true) ∧ Below w.heap.size w w' := by
  have := h.2 (Ctx.allT w (ts.map (·.1))) vs.toList w ⟨hv.1, fun i hi => (hv.2 i hi).all_to⟩ (Ctx.allT_rel w ht hn)
  refine this.mono ?_
  rintro e w' ⟨c', r, v, H', he, rfl, hr, hh, rfl⟩
  have hb : ∀ b, b < w.heap.size → w'.heap[b]? = w.heap[b]? := fun b hb => by
    have h1 : (Ctx.allT w (ts.map (·.1))).sealed b = some w.heap[b] := by simp [Ctx.allT, hb]
    rw [hh.sealed b _ (he.sealed b _ h1)]; simp [hb]
  have hsz : w.heap.size ≤ w'.heap.size := by
    rcases Nat.lt_or_ge w'.heap.size w.heap.size with h1 | h1
    · have := hb w'.heap.size h1
      simp [h1] at this
    · exact h1
  refine ⟨by rw [hr.v_inv], hh.os.trans he.os, hh.tape.trans he.tape, hh.output.trans he.output, hsz, hb⟩
theorem law_contractT {f : FuncId} {fn : Func} {s : ChangeSpec} {apart fresh handsOn again : Bool} {tb : TypeId} (hvars : s.vars = []) (hres : fn.resultTypes = #[tb]) (htb : P.underlying tb = some .bool)
    (hspec : ∀ (H : Type) (ds : List (DataW H)), ds.length = fn.params.toList.length → s.fn H ds = { results := [.lit (.bool true)], args := ds })
    (hl : laidOutB P = true) (hr : ∀ t ∈ fn.params.toList, P.readableRec t = true ∧ t < P.types.size) {As : List (AVal → Prop)} (hopn : OpnAll P fn.params.toList As)
    {H : Type} {enc : TypeId × Value → H} {W : World} {base : Nat} {args : Array Value} {ds gs : List (DataW H)} {before : List MemPlace}
    {ts : List (Nat × Obj)} (hac : ∀ avs, All2 As avs → AC P f avs (ts.map fun t => .tab t.1 t.2) (fun r _ => r = .v (.bool true))) (hn : (ts.map (·.1)).Nodup) (ht : ∀ t ∈ ts, W.heap[t.1]? = some t.2)
    (hval : ∀ (j : Nat) t v, fn.params[j]? = some t → args[j]? = some v → Value.okWide P W .any base t v)
    (hW : DataW.Whole enc P fn.params.toList s.vars apart W args.toList ds gs before) : Calls P f args W fun e W' => ∃ v, e = .returned v ∧ s.post enc P fn apart fresh handsOn again W args v W' := by
  obtain ⟨avs, h1, h2⟩ := opn_all hopn (base := base) (fun j t v hj hv => hval j t v (by simpa using hj) (by simpa using hv)) hW.choose_spec.choose_spec.1
  refine (law_ofT (hac avs h2) hn ht h1).mono ?_
  rintro e W' ⟨rfl, hb⟩
  exact ⟨_, rfl, law_post hvars hres htb hspec hl hr hW hb⟩
end Go.Eng
end

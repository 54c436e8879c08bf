/- The wrap of a row that lists variables, with the world's shape at hand; the tables of the reading laws. -/
import Derived.Test.YtlgagjboijkpgaaDoorL1
import Derived.Test.YtlgagjboijkpgaaDoorRW5
import Derived.HandedShaped
set_option linter.unusedSimpArgs false
set_option linter.unusedVariables false
namespace Go.Proofs.YtlgagjboijkpgaaDoor
open Go.Shelf Go.RowKit Go.Lib Go.Eng Go.ChangeShapes Go.WideShapes Go.ChangeAt

section
variable {H : Type} {enc : TypeId × Value → H}
theorem handed_shaped {a : Assume} {C : Checked} {os : Os} {f : FuncId} {fn : Func} {s : ChangeSpec} {conds : List PathCond} {apart fresh handsOn again : Bool} {X : World → Array Value → Prop}
    (hX : ∀ (w w' : World) (args : Array Value), w.heap = w'.heap → X w args → X w' args)
    (own : ownKnob C.prog.godebug = none) (started : os.Started) (noInit : C.prog.inits.idxOf? f = none) (hfn : C.prog.funcs[f]? = some fn)
    (witness : ∃ (w : World) (tape : Tape) (i : Input), w.os = os ∧ (w.forCall tape i).Shaped C.prog ∧ i.vars = [] ∧ Input.okWide C.prog (w.forCall tape i) .any w.heap.size f i ∧
      ((s.pre enc C.prog fn conds apart (w.forCall tape i).memory i.args ∧ X (w.forCall tape i).memory i.args) ∧ sizedMet enc C.prog fn (OpenSpec.ofChange s) apart (w.forCall tape i).memory i.args) ∧ a.holds C.prog (lone (Frame.enter C.prog f i.args .normal) [] (w.forCall tape i)))
    (contract : ∀ (W : World) (base : Nat) (args : Array Value) (ds gs : List (DataW H)) (before : List MemPlace),
      (∀ (j : Nat) t v, fn.params[j]? = some t → args[j]? = some v → Value.okWide C.prog W .any base t v) →
      DataW.Whole enc C.prog fn.params.toList s.vars apart W args.toList ds gs before → X W args → W.ShapedOpen C.prog →
      Calls C.prog f args W fun e W' => ∃ v, e = .returned v ∧ s.post enc C.prog fn apart fresh handsOn again W args v W') :
    ReturnsInHanded a C os f .any (fun w args => (s.pre enc C.prog fn conds apart w args ∧ X w args) ∧ sizedMet enc C.prog fn (OpenSpec.ofChange s) apart w args) (s.post enc C.prog fn apart fresh handsOn again) := by
  refine returnsInHanded_of_calls own started noInit witness ?_
  intro w tape i _ hsh _ hok hpre hholds
  obtain ⟨_, _, _, fn', hfn', _, _, _, _, hval⟩ := hok
  have e : fn' = fn := Option.some.inj (hfn'.symm.trans hfn)
  subst e
  obtain ⟨⟨⟨ds, gs, before, hw, hc⟩, hx⟩, hz⟩ := hpre
  have hw' := DataW.Whole.of_heap (w' := w.forCall tape i) (by rfl) hw
  refine (contract (w.forCall tape i) w.heap.size i.args ds gs before hval hw' (hX _ _ _ (by rfl) hx) hsh).mono fun e W' ⟨v, he, hp⟩ => ?_
  subst he
  exact ChangeSpec.post_blind hp
end
shelf_lay LaysM.n146 Nm 146 at Tryd as laysM146
theorem gMaxM : laysM146_ren.g 1 = 3 := by kernel_rfl
theorem max_of_shape {W : World} (h : W.ShapedOpen Tryd.prog) : ∃ o, W.heap[3]? = some o ∧ ∃ (M : Int) (cs : Array Value) (T : TypeId) (fr : Nat × Nat), cs[0]? = some (Value.int .i64 M) ∧ o = .cells cs T fr := by
  obtain ⟨m, hm⟩ := laysM146.s1_3 W h
  rw [gMaxM] at hm
  unfold World.cell? at hm
  split at hm
  · rename_i cs T fr e
    simp only [Option.isSome, Bool.false_eq_true, if_false] at hm
    exact ⟨_, e, m, cs, T, fr, hm, rfl⟩
  · cases hm
theorem tabsL_of_laid {W : World} (h : laidMetH Tryd.prog Rows.fnExactReadListRow.laid W) (hsh : W.ShapedOpen Tryd.prog) : ∃ o1 o2 o3 o4, W.heap[0]? = some o1 ∧ W.heap[1]? = some o2 ∧ W.heap[2]? = some o3 ∧ W.heap[3]? = some o4 ∧ HasVars [.tab 0 o1, .tab 1 o2, .tab 2 o3, .tab 3 o4] ∧ HasMax [.tab 0 o1, .tab 1 o2, .tab 2 o3, .tab 3 o4] := by
  have hL : laidMet Tryd.prog Rows.fnExactReadListRow.laid W := h
  obtain ⟨T, fr, h0⟩ := pow_ofL (laidMet.tail (laidMet.tail hL))
  obtain ⟨t2, p2, T2, fr2, h2⟩ := rng_ofL (laidMet.tail (laidMet.tail (laidMet.tail (laidMet.tail hL))))
  obtain ⟨t1, p1, T1, fr1, h1⟩ := syn_of (laidMet.tail (laidMet.tail (laidMet.tail (laidMet.tail (laidMet.tail hL)))))
  obtain ⟨o4, h4, M, cs, T4, fr4, hc, rfl⟩ := max_of_shape hsh
  exact ⟨_, _, _, _, h0, h1, h2, h4, ⟨⟨0, T, fr, rfl⟩, ⟨1, t1, p1, T1, fr1, rfl⟩, ⟨2, t2, p2, T2, fr2, rfl⟩⟩, ⟨3, M, cs, T4, fr4, hc, rfl⟩⟩
end Go.Proofs.YtlgagjboijkpgaaDoor

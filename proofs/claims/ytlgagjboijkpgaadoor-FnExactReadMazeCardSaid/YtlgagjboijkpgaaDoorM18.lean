/- Texts of this seat that the law stands on, put together. No conditions. -/
import Derived.HandedShaped
import Derived.Test.YtlgagjboijkpgaaDoorM17
section
set_option linter.unusedSimpArgs false
set_option linter.unusedVariables false
namespace Go.Proofs.YtlgagjboijkpgaaDoor
open Go.Shelf Go.RowKit Go.Lib Go.Eng Go.ChangeShapes Go.WideShapes Go.ChangeAt
section
variable {H : Type} {enc : TypeId × Value → H}
theorem handed_shaped {a : Assume} {C : Checked} {os : Os} {f : FuncId} {fn : Func} {s : ChangeSpec} {conds : List PathCond} {apart fresh handsOn again : Bool} {X : World → Array Value → Prop}
    (hX : ∀ (w w' : World) (args : Array Value), w.heap = w'.heap → X w args → X w' args)
    (own : ownKnob C.prog.godebug = none) (started : os.Started) (noInit : C.prog.inits.idxOf? f = none) (hfn : C.prog.funcs[f]? = some fn)
    (witness : ∃ (w : World) (tape : Tape) (i : Input), w.os = os ∧ (w.forCall tape i).Shaped C.prog ∧ i.vars = [] ∧ Input.okWide C.prog (w.forCall tape i) .any w.heap.size f i ∧
      ((s.pre enc C.prog fn conds apart (w.forCall tape i).memory i.args ∧ X (w.forCall tape i).memory i.args) ∧ sizedMet enc C.prog fn (OpenSpec.ofChange s) apart (w.forCall tape i).memory i.args) ∧ a.holds C.prog (lone (Frame.enter C.prog f i.args .normal) [] (w.forCall tape i)))
    (contract : ∀ (W : World) (base : Nat) (args : Array Value) (ds gs : List (DataW H)) (before : List MemPlace),
      (∀ (j : Nat) t v, fn.params[j]? = some t → args[j]? = some v → Value.okWide C.prog W .any base t v) →
      DataW.Whole enc C.prog fn.params.toList s.vars apart W args.toList ds gs before → X W args → W.ShapedOpen C.prog →
      Calls C.prog f args W fun e W' => ∃ v, e = .returned v ∧ s.post enc C.prog fn apart fresh handsOn again W args v W') :
    ReturnsInHanded a C os f .any (fun w args => (s.pre enc C.prog fn conds apart w args ∧ X w args) ∧ sizedMet enc C.prog fn (OpenSpec.ofChange s) apart w args) (s.post enc C.prog fn apart fresh handsOn again) := by
  refine returnsInHanded_of_calls own started noInit witness ?_
  intro w tape i _ hsh _ hok hpre hholds
  obtain ⟨_, _, _, fn', hfn', _, _, _, _, hval⟩ := hok
  have e : fn' = fn := Option.some.inj (hfn'.symm.trans hfn)
  subst e
  obtain ⟨⟨⟨ds, gs, before, hw, hc⟩, hx⟩, hz⟩ := hpre
  have hw' := DataW.Whole.of_heap (w' := w.forCall tape i) (by rfl) hw
  refine (contract (w.forCall tape i) w.heap.size i.args ds gs before hval hw' (hX _ _ _ (by rfl) hx) hsh).mono fun e W' ⟨v, he, hp⟩ => ?_
  subst he
  exact ChangeSpec.post_blind hp
end
shelf_lay LaysM.n146 Nm 146 at Tryd as laysM146
theorem gMaxM : laysM146_ren.g 1 = 3 := by kernel_rfl
theorem max_of_shape {W : World} (h : W.ShapedOpen Tryd.prog) : ∃ o, W.heap[3]? = some o ∧ ∃ (M : Int) (cs : Array Value) (T : TypeId) (fr : Nat × Nat), cs[0]? = some (Value.int .i64 M) ∧ o = .cells cs T fr := by
  obtain ⟨m, hm⟩ := laysM146.s1_3 W h
  rw [gMaxM] at hm
  unfold World.cell? at hm
  split at hm
  · rename_i cs T fr e
    simp only [Option.isSome, Bool.false_eq_true, if_false] at hm
    exact ⟨_, e, m, cs, T, fr, hm, rfl⟩
  · cases hm
end Go.Proofs.YtlgagjboijkpgaaDoor
end
section
set_option linter.unusedSimpArgs false
set_option linter.unusedVariables false
namespace Go.Proofs.YtlgagjboijkpgaaDoor
open Go.Shelf Go.RowKit Go.Lib Go.Eng Go.ChangeShapes Go.WideShapes Go.ChangeAt
theorem laidRM_met (os : Os) (args : Array Value) : laidMetH Tryd.prog Rows.fnExactReadMazeRow.laid ((laidWorldR os).forCall (fun _ _ => 0) ⟨#[], args, []⟩).memory :=
  laidMet_of_run' 8 (by kernel_rfl) (by kernel_rfl)
theorem tabsM_of_shape {W : World} (hsh : W.ShapedOpen Tryd.prog) : ∃ o4, W.heap[3]? = some o4 ∧ HasMax [.tab 3 o4] := by
  obtain ⟨o4, h4, M, cs, T4, fr4, hc, rfl⟩ := max_of_shape hsh
  exact ⟨_, h4, ⟨0, M, cs, T4, fr4, hc, rfl⟩⟩
end Go.Proofs.YtlgagjboijkpgaaDoor
end

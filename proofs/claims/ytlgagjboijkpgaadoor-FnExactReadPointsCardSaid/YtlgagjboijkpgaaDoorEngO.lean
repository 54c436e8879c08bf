/- The engine, part O: what an operation comes to does not hang on what follows. -/
import Derived.Test.YtlgagjboijkpgaaDoorEngN
set_option linter.unusedSimpArgs false
set_option linter.unusedVariables false
namespace Go.Eng
variable {P : Program} {E : Env}

/-- Operations that neither read nor write memory. -/
def isPure : Op → Bool
  | .move _ | .assign _ | .pick .. | .build .. | .nilCheck _ | .binOp .. | .unOp .. | .convert .. | .makeFunc .. | .slice .. | .fieldAddr .. | .indexAddr .. | .index .. | .extract .. => true
  | .call { callee := .builtin .len, .. } | .call { callee := .builtin .max, .. } | .call { callee := .builtin .min, .. } => true
  | _ => false

/-- It comes to one value. -/
def Det (F : (AVal → Prop) → Prop) : Prop := ∀ k, F k → ∃ r, k r ∧ ∀ k' : AVal → Prop, k' r → F k'

theorem vBin_det {op : BinOp} {T : TypeId} {cc : Bool} {X Y : AVal} : Det (vBin E op T cc X Y) := by
  intro k h
  unfold vBin at h ⊢
  split at h <;> (first | exact ⟨_, h, fun _ q => q⟩ | exact ⟨_, h.2, fun _ q => ⟨h.1, q⟩⟩ | exact ⟨_, h.2.2, fun _ q => ⟨h.1, h.2.1, q⟩⟩ | exact h.elim)
theorem vUn_det {op : UnOp} {X : AVal} : Det (vUn op X) := by
  intro k h
  unfold vUn at h ⊢
  split at h <;> (first | exact ⟨_, h, fun _ q => q⟩ | exact h.elim)
theorem vPick_det {c a b : AVal} : Det (vPick c a b) := by
  intro k h
  unfold vPick at h ⊢
  split at h
  · rename_i t
    cases t
    · exact ⟨b, h.2 rfl, fun _ q => ⟨fun h => (by cases h), fun _ => q⟩⟩
    · exact ⟨a, h.1 rfl, fun _ q => ⟨fun _ => q, fun h => (by cases h)⟩⟩
  · exact h.elim
theorem vConv_det {s d : TypeId} {X : AVal} : Det (vConv E s d X) := by
  intro k h
  unfold vConv at h ⊢
  split at h <;> (first | exact ⟨_, h, fun _ q => q⟩ | exact ⟨_, h.2, fun _ q => ⟨h.1, q⟩⟩ | exact h.elim)
theorem vPart_det {agg : Bool} {sz : Nat} {cs : List AVal} {j : Nat} : Det (vPart agg sz cs j) := by
  intro k h
  unfold vPart at h ⊢; cases agg <;> exact ⟨_, h.2, fun _ q => ⟨h.1, q⟩⟩
theorem vLoad_det {T : TypeId} {st : St} {X : AVal} : Det (vLoad E T st X) := by
  intro k h
  unfold vLoad at h ⊢
  split at h
  · split at h
    · obtain ⟨h1, h2⟩ := h
      obtain ⟨r, g1, g2⟩ := vPart_det _ h2
      exact ⟨r, g1, fun _ q => ⟨h1, g2 _ q⟩⟩
    · obtain ⟨h1, h2, h3⟩ := h
      obtain ⟨r, g1, g2⟩ := vPart_det _ h3
      exact ⟨r, g1, fun _ q => ⟨h1, h2, g2 _ q⟩⟩
    · exact h.elim
  · exact vPart_det _ h
  · exact h.elim
theorem vIdxA_det {T : TypeId} {X I : AVal} : Det (vIdxA E T X I) := by
  intro k h
  unfold vIdxA at h ⊢
  split at h <;> (first | exact ⟨_, h.2.2, fun _ q => ⟨h.1, h.2.1, q⟩⟩ | exact h.elim)
theorem vIdx_det {T : TypeId} {X I : AVal} : Det (vIdx E T X I) := by
  intro k h
  unfold vIdx at h ⊢
  split at h <;> (first | exact ⟨_, h.2, fun _ q => ⟨h.1, q⟩⟩ | exact h.elim)
theorem vFldA_det {T : TypeId} {f : Nat} {X : AVal} : Det (vFldA E T f X) := by
  intro k h
  unfold vFldA at h ⊢
  split at h <;> (first | exact ⟨_, h, fun _ q => q⟩ | exact h.elim)
theorem vExt_det {X : AVal} {i : Nat} : Det (vExt X i) := by
  intro k h
  unfold vExt at h ⊢
  split at h <;> (first | exact ⟨_, h.2, fun _ q => ⟨h.1, q⟩⟩ | exact h.elim)
theorem vLen_det {T : TypeId} {X : AVal} : Det (vLen E T X) := by
  intro k h
  unfold vLen at h ⊢
  split at h <;> (first | exact ⟨_, h, fun _ q => q⟩ | exact h.elim)
theorem vMin_det {mx : Bool} {X Y : AVal} : Det (vMin mx X Y) := by
  intro k h
  unfold vMin at h ⊢
  split at h <;> (first | exact ⟨_, h.2, fun _ q => ⟨h.1, q⟩⟩ | exact h.elim)
theorem vNil_det {X : AVal} : Det (vNil X) := by
  intro k h
  unfold vNil at h ⊢
  split at h <;> (first | exact ⟨_, h, fun _ q => q⟩ | exact h.elim)
theorem vBuild_det {T : TypeId} {ps : List (Nat × AVal)} : Det (vBuild E T ps) := by
  intro k h
  unfold vBuild at h ⊢
  split at h
  · split at h
    · exact ⟨_, h, fun _ q => q⟩
    · exact h.elim
  · exact h.elim
theorem bnd_ex {o : Option AVal} {d : Int} {k : Int → Prop} (h : bnd o d k) : ∃ n, k n ∧ ∀ k' : Int → Prop, k' n → bnd o d k' := by
  unfold bnd at h
  split at h
  · exact ⟨_, h, fun _ q => q⟩
  · exact ⟨_, h, fun _ q => q⟩
  · exact h.elim
theorem vSlice_det {T : TypeId} {X : AVal} {lo hi : Option AVal} : Det (vSlice E T X lo hi) := by
  intro k h
  unfold vSlice at h ⊢
  split at h
  · obtain ⟨l, h, f1⟩ := bnd_ex h
    obtain ⟨u, h, f2⟩ := bnd_ex h
    refine ⟨_, h.2, fun k' q => ?_⟩
    apply f1
    apply f2
    exact ⟨h.1, q⟩
  · obtain ⟨l, h, f1⟩ := bnd_ex h
    obtain ⟨u, h, f2⟩ := bnd_ex h
    refine ⟨_, h.2.2, fun k' q => ?_⟩
    apply f1
    apply f2
    exact ⟨h.1, h.2.1, q⟩
  · obtain ⟨l, h, f1⟩ := bnd_ex h
    obtain ⟨u, h, f2⟩ := bnd_ex h
    refine ⟨_, h.2.2, fun k' q => ?_⟩
    apply f1
    apply f2
    exact ⟨h.1, h.2.1, q⟩
  · exact h.elim

/-- It comes to one value and one heap. -/
def Det3 (F : (AVal → List ABox → List ABox → Prop) → Prop) : Prop := ∀ k, F k → ∃ r b l, k r b l ∧ ∀ k' : AVal → List ABox → List ABox → Prop, k' r b l → F k'
theorem Det.three {F : (AVal → Prop) → Prop} (h : Det F) (b l : List ABox) : Det3 (fun k => F (fun r => k r b l)) := fun k hk => by
  obtain ⟨r, h1, h2⟩ := h _ hk
  exact ⟨r, b, l, h1, fun k' q => h2 _ q⟩

theorem vAlloc_det {T : TypeId} {st : St} : Det3 (vAlloc E T st) := by
  intro k h
  unfold vAlloc at h ⊢
  split at h
  · exact ⟨_, _, _, h, fun _ q => q⟩
  · exact h.elim
theorem vBox_det {st : St} {X : AVal} : Det3 (vBox st X) := by
  intro k h
  unfold vBox at h ⊢
  split at h
  · exact ⟨_, _, _, h, fun _ q => q⟩
  · exact h.elim
theorem setBox_det {st : St} {id : Nat} {X : ABox} {K : List ABox → List ABox → Prop} (h : st.setBox id X K) : ∃ b l, K b l ∧ ∀ K' : List ABox → List ABox → Prop, K' b l → st.setBox id X K' := by
  unfold St.setBox at h ⊢
  split at h
  · rename_i hlt; exact ⟨_, _, h, fun _ q => by rw [if_pos hlt]; exact q⟩
  · rename_i hlt; exact ⟨_, _, h, fun _ q => by rw [if_neg hlt]; exact q⟩
theorem vBuildSl_det {T : TypeId} {n : Nat} {st : St} {ps : List (Nat × AVal)} : Det3 (vBuildSl E T n st ps) := by
  intro k h
  unfold vBuildSl at h ⊢
  split at h
  · split at h
    · exact ⟨_, _, _, h.2, fun _ q => ⟨h.1, q⟩⟩
    · unfold vSealSl at h ⊢
      split at h
      · split at h
        · obtain ⟨b, l, g1, g2⟩ := setBox_det h.2
          exact ⟨_, b, _, g1, fun _ q => ⟨h.1, g2 _ q⟩⟩
        · exact h.elim
      · split at h
        · obtain ⟨b, l, g1, g2⟩ := setBox_det h.2
          exact ⟨_, b, _, g1, fun _ q => ⟨h.1, g2 _ q⟩⟩
        · exact h.elim
      · exact h.elim
  · exact h.elim
theorem vMake_det {T : TypeId} {st : St} {X Y : AVal} : Det3 (vMake E T st X Y) := by
  intro k h
  unfold vMake at h ⊢
  split at h
  · exact ⟨_, _, _, h.2, fun _ q => ⟨h.1, q⟩⟩
  · exact h.elim
theorem vStore_det {T : TypeId} {st : St} {X Y : AVal} : Det3 (fun k => vStore E T st X Y (fun b l => k (.v undef) b l)) := by
  intro k h
  unfold vStore at h ⊢
  split at h
  · obtain ⟨h1, h2, h3, h⟩ := h
    split at h
    · obtain ⟨h4, h5, h⟩ := h
      obtain ⟨b, l, g1, g2⟩ := setBox_det h
      exact ⟨_, b, l, g1, fun k' q => ⟨h1, h2, h3, h4, h5, g2 (fun b l => k' (.v undef) b l) q⟩⟩
    · obtain ⟨h4, h5, h6, h⟩ := h
      split at h
      · obtain ⟨b, l, g1, g2⟩ := setBox_det h
        exact ⟨_, b, l, g1, fun k' q => ⟨h1, h2, h3, h4, h5, h6, g2 (fun b l => k' (.v undef) b l) q⟩⟩
      · exact h.elim
    · exact h.elim
  · exact h.elim
theorem vMakeMap_det {T : TypeId} {st : St} : Det3 (vMakeMap E T st) := by
  intro k h
  unfold vMakeMap at h ⊢
  split at h
  · exact ⟨_, _, _, h, fun _ q => q⟩
  · exact h.elim
theorem vLookup_det {T : TypeId} {st : St} {X I : AVal} {ok : Bool} : Det (vLookup E T st X I ok) := by
  intro k h
  unfold vLookup at h ⊢
  split at h
  · split at h
    · obtain ⟨h1, h⟩ := h
      split at h
      · exact ⟨_, h, fun _ q => ⟨h1, q⟩⟩
      · exact h.elim
    · exact h.elim
  · exact h.elim
theorem vMapUpd_det {T : TypeId} {st : St} {X I Y : AVal} : Det3 (fun k => vMapUpd E T st X I Y (fun b l => k (.v undef) b l)) := by
  intro k h
  unfold vMapUpd at h ⊢
  split at h
  · split at h
    · obtain ⟨h1, h⟩ := h
      split at h
      · obtain ⟨b, l, g1, g2⟩ := setBox_det h
        exact ⟨_, b, l, g1, fun k' q => ⟨h1, g2 (fun b l => k' (.v undef) b l) q⟩⟩
      · exact h.elim
    · exact h.elim
  · exact h.elim
theorem vMapEnt_det {T : TypeId} {st : St} {X I : AVal} : Det3 (vMapEnt E T st X I) := by
  intro k h
  unfold vMapEnt at h ⊢
  split at h
  · split at h
    · obtain ⟨h1, h⟩ := h
      split at h
      · split at h
        · exact ⟨_, _, _, h, fun k' q => ⟨h1, q⟩⟩
        · obtain ⟨b, l, g1, g2⟩ := setBox_det h
          exact ⟨_, b, l, g1, fun k' q => ⟨h1, g2 (fun b l => k' _ b l) q⟩⟩
      · exact h.elim
    · exact h.elim
  · exact h.elim
theorem vEntSt_det {st : St} {X I Y : AVal} : Det3 (fun k => vEntSt st X I Y (fun b l => k (.v undef) b l)) := by
  intro k h
  unfold vEntSt at h ⊢
  split at h
  · split at h
    · obtain ⟨h1, h⟩ := h
      obtain ⟨b, l, g1, g2⟩ := setBox_det h
      exact ⟨_, b, l, g1, fun k' q => ⟨h1, g2 (fun b l => k' (.v undef) b l) q⟩⟩
    · exact h.elim
  · exact h.elim
theorem vEntry_det {st : St} {X : AVal} : Det (vEntry st X) := by
  intro k h
  unfold vEntry at h ⊢
  split at h
  · split at h
    · split at h
      · obtain ⟨h1, h⟩ := h
        split at h
        · exact ⟨_, h, fun _ q => ⟨h1, q⟩⟩
        · exact h.elim
      · exact h.elim
    · exact h.elim
  · exact h.elim
theorem vRange_det {T : TypeId} {st : St} {X : AVal} : Det3 (vRange E T st X) := by
  intro k h
  unfold vRange at h ⊢
  split at h
  · split at h
    · exact ⟨_, _, _, h, fun _ q => q⟩
    · exact h.elim
  · exact h.elim
theorem elems_det {e : ETy} {st : St} {Y : AVal} {k : List e.T → Prop} (h : elems e st Y k) : ∃ ys, k ys ∧ ∀ k' : List e.T → Prop, k' ys → elems e st Y k' := by
  unfold elems at h ⊢
  split at h
  · split at h
    · rename_i he; subst he; exact ⟨_, h, fun _ q => by rw [dif_pos rfl]; exact q⟩
    · exact h.elim
  · split at h
    · split at h
      · rename_i he; subst he; exact ⟨_, h.2.2, fun _ q => by rw [dif_pos rfl]; exact ⟨h.1, h.2.1, q⟩⟩
      · exact h.elim
    · exact h.elim
  · exact ⟨_, h, fun _ q => q⟩
  · exact h.elim
theorem vAppend_det {T : TypeId} {st : St} {X Y : AVal} : Det3 (vAppend E T st X Y) := by
  intro k h
  unfold vAppend at h ⊢
  split at h
  · exact h.elim
  · obtain ⟨ys, h, hel⟩ := elems_det h
    split at h
    · exact ⟨_, _, _, h.2, fun k' q => hel _ ⟨h.1, q⟩⟩
    · split at h
      · split at h
        · rename_i he
          subst he
          obtain ⟨h1, h2, h⟩ := h
          obtain ⟨b, l, g1, g2⟩ := setBox_det h
          exact ⟨_, b, _, g1, fun k' q => hel _ (by rw [dif_pos rfl]; exact ⟨h1, h2, g2 (fun b l => k' _ b _) q⟩)⟩
        · exact h.elim
      · exact h.elim
    · exact h.elim

end Go.Eng

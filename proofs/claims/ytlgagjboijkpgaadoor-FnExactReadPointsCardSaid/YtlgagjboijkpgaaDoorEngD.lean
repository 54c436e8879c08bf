/- The engine, part D: operations that make or write memory; calls. -/
import Derived.Test.YtlgagjboijkpgaaDoorEngC
set_option linter.unusedSimpArgs false
set_option linter.unusedVariables false
namespace Go.Eng
variable {P : Program} {E : Env}

theorem SExt.of_eq {c c' : Ctx} (h : c'.os = c.os) (h1 : c'.tape = c.tape) (h2 : c'.output = c.output) (h3 : c'.sealed = c.sealed) : SExt c c' := ⟨h, h1, h2, fun b o hb => by rw [h3]; exact hb⟩

/-- The cells of a value, as the abstract cells say. -/
theorem flat_ok {c : Ctx} {X : AVal} {vs : List AVal} (hf : X.flat = some vs) {u : Value} (hx : RelV c X u) :
    u.cells.toList.length = vs.length ∧ ∀ i, i < vs.length → RelV c (vs.getD i .junk) (u.cells.toList.getD i undef) := by
  cases hx with
  | @agg cs ws hl h =>
    simp [AVal.flat] at hf
    subst hf
    exact ⟨by simpa [Value.cells] using hl.symm, fun i hi => by simpa [Value.cells] using h i hi⟩
  | junk => simp [AVal.flat] at hf
  | tup => simp [AVal.flat] at hf
  | v =>
    cases u <;> simp [AVal.flat] at hf <;> subst hf <;> refine ⟨by simp [Value.cells], fun i hi => ?_⟩ <;>
      (obtain rfl : i = 0 := by simpa using hi) <;> exact .v _
  | rd g hl hcp ha hr => simp [AVal.flat] at hf; subst hf; refine ⟨by simp [Value.cells], fun i hi => ?_⟩; obtain rfl : i = 0 := by simpa using hi
                         exact .rd g hl hcp ha hr
  | ptr h => simp [AVal.flat] at hf; subst hf; refine ⟨by simp [Value.cells], fun i hi => ?_⟩; obtain rfl : i = 0 := by simpa using hi
             exact .ptr h
  | sl h hn ha => simp [AVal.flat] at hf; subst hf; refine ⟨by simp [Value.cells], fun i hi => ?_⟩; obtain rfl : i = 0 := by simpa using hi
                  exact .sl h hn ha
  | rp g h hc hr => simp [AVal.flat] at hf; subst hf; refine ⟨by simp [Value.cells], fun i hi => ?_⟩; obtain rfl : i = 0 := by simpa using hi
                    exact .rp g h hc hr
  | fn hl h => simp [AVal.flat] at hf; subst hf; refine ⟨by simp [Value.cells], fun i hi => ?_⟩; obtain rfl : i = 0 := by simpa using hi
               exact .fn hl h
  | mp h => simp [AVal.flat] at hf; subst hf; refine ⟨by simp [Value.cells], fun i hi => ?_⟩; obtain rfl : i = 0 := by simpa using hi
            exact .mp h
  | it h => simp [AVal.flat] at hf; subst hf; refine ⟨by simp [Value.cells], fun i hi => ?_⟩; obtain rfl : i = 0 := by simpa using hi
            exact .it h

theorem getD_some {l : List Value} {i : Nat} (h : i < l.length) : l[i]? = some (l.getD i undef) := by simp [List.getD, h]

/-- A new box out of cells that are said by abstract ones. -/
theorem RelH.newBox {c : Ctx} {H : List ABox} {w : World} (h : RelH c H w) (cells : Array Value) (T : TypeId) (vs : List AVal)
    (hl : cells.toList.length = vs.length) (hr : ∀ i, i < vs.length → RelV c (vs.getD i .junk) (cells.toList.getD i undef)) :
    ∃ c', Ext c c' ∧ c'.loc H.length = some ⟨w.heap.size, 0, 0⟩ ∧ RelH c' (H ++ [.box false vs]) (w.alloc (.cells cells T)) := by
  have he := Ctx.bind_ext (l := ⟨w.heap.size, 0, 0⟩) (h.dom H.length (Nat.le_refl _))
  refine ⟨_, he, Ctx.bind_same _ _ _, h.alloc cells T 0 _ ⟨cells, T, World.heap_alloc_new w _, ?_, fun j hj => ?_⟩⟩
  · show c.sealed w.heap.size = _
    cases hs : c.sealed w.heap.size with
    | none => rfl
    | some o => exact absurd (Array.getElem?_eq_some_iff.1 (h.sealed _ _ hs)).1 (by omega)
  · refine ⟨cells.toList.getD j undef, ?_, (hr j hj).ext he⟩
    rw [Nat.zero_add, ← Array.getElem?_toList]
    exact getD_some (by omega)

/-- A new row. -/
theorem RelH.newRow {c : Ctx} {H : List ABox} {w : World} (h : RelH c H w) (cells : Array Value) (T : TypeId) (e : ETy) (xs : List e.T) (cap : Nat)
    (hc : cap * e.sz ≤ cells.size) (hx : xs.length ≤ cap)
    (hr : ∀ i j, i < xs.length → j < e.sz → RelV c ((e.enc (xs.getD i e.d)).getD j .junk) (cells.toList.getD (i * e.sz + j) undef)) :
    ∃ c', Ext c c' ∧ c'.loc H.length = some ⟨w.heap.size, 0, cap⟩ ∧ RelH c' (H ++ [.row false e xs]) (w.alloc (.cells cells T)) := by
  have he := Ctx.bind_ext (l := ⟨w.heap.size, 0, cap⟩) (h.dom H.length (Nat.le_refl _))
  refine ⟨_, he, Ctx.bind_same _ _ _, h.alloc cells T cap _ ⟨cells, T, World.heap_alloc_new w _, ?_, by simpa using hc, hx, fun i j hi hj => ?_⟩⟩
  · show c.sealed w.heap.size = _
    cases hs : c.sealed w.heap.size with
    | none => rfl
    | some o => exact absurd (Array.getElem?_eq_some_iff.1 (h.sealed _ _ hs)).1 (by omega)
  · refine ⟨cells.toList.getD (i * e.sz + j) undef, ?_, (hr i j hi hj).ext he⟩
    rw [Nat.zero_add, ← Array.getElem?_toList]
    have h1 : i * e.sz + e.sz ≤ cap * e.sz := by rw [← Nat.succ_mul]; exact Nat.mul_le_mul_right _ (by omega)
    exact getD_some (by rw [Array.length_toList]; omega)

/-- The number of a box passes to a new one: the block's cells are written, the old box is forgotten. -/
theorem RelH.rebind {c : Ctx} {H : List ABox} {w : World} (h : RelH c H w) {k : Nat} {l l' : Loc} {X Y : ABox} (hk : H[k]? = some X) (hX : X.live = true) (hl : c.loc k = some l)
    (hs : c.sealed l.blk = none) (hb : l'.blk = l.blk) (cells : Array Value) (hY : RelB c (w.setRow l.blk cells) l' Y) :
    ∃ c', Ext c c' ∧ c'.sealed = c.sealed ∧ c'.loc H.length = some l' ∧ RelH c' (H.set k .dead ++ [Y]) (w.setRow l.blk cells) := by
  have hnone := h.dom H.length (Nat.le_refl _)
  have he := Ctx.bind_ext (l := l') hnone
  have hklt : k < H.length := (List.getElem?_eq_some_iff.1 hk).1
  have hlen : (H.set k .dead).length = H.length := by simp
  have hkof : ∀ (i : Nat) (Z : ABox), (H.set k .dead ++ [Y])[i]? = some Z → Z.live = true → (i < H.length ∧ i ≠ k ∧ H[i]? = some Z) ∨ (i = H.length ∧ Z = Y) := fun i Z hi hZ => by
    rcases Nat.lt_or_ge i H.length with h1 | h1
    · rw [List.getElem?_append_left (by omega), List.getElem?_set] at hi
      by_cases e : k = i
      · subst e; simp [hklt] at hi; subst hi; cases hZ
      · rw [if_neg e] at hi; exact .inl ⟨h1, fun e' => e e'.symm, hi⟩
    · rw [List.getElem?_append_right (by omega), hlen] at hi
      have : i - H.length < 1 := by
        have := (List.getElem?_eq_some_iff.1 hi).1; simpa using this
      have e : i = H.length := by omega
      subst e
      simp at hi
      exact .inr ⟨rfl, hi.symm⟩
  have hloc : ∀ (i : Nat) (m : Loc), i < H.length → (c.bind H.length l').loc i = some m → c.loc i = some m := fun i m hi hm => by
    have : (if i = H.length then some l' else c.loc i) = some m := hm
    rwa [if_neg (by omega)] at this
  refine ⟨c.bind H.length l', he, rfl, Ctx.bind_same _ _ _, h.os, h.tape, h.output, fun b o hb => ?_, fun i hi => ?_, fun i Z hi hZ => ?_, ?_⟩
  · have hb' : c.sealed b = some o := hb
    have hne : b ≠ l.blk := fun e => by subst e; rw [hs] at hb'; cases hb'
    rw [setRow_other w _ _ _ hne]; exact h.sealed b o hb'
  · show (if i = H.length then some l' else c.loc i) = none
    simp at hi
    rw [if_neg (by omega)]
    exact h.dom i (by omega)
  · rcases hkof i Z hi hZ with ⟨h1, h2, h3⟩ | ⟨rfl, rfl⟩
    · obtain ⟨m, hm, hB⟩ := h.box i Z h3 hZ
      have hne : m.blk ≠ l.blk := fun hb' => h2 (h.inj i k m l Z X h3 hZ hk hX hm hl hb')
      exact ⟨m, he.loc i m hm, hB.carry he (fun _ => setRow_other w _ _ _ hne) (fun _ => rfl)⟩
    · refine ⟨l', Ctx.bind_same _ _ _, hY.carry he (fun _ => rfl) (fun _ => rfl)⟩
  · intro i i' m m' Z Z' hi hZ hi' hZ' hm hm' hbb
    rcases hkof i Z hi hZ with ⟨h1, h2, h3⟩ | ⟨rfl, rfl⟩ <;> rcases hkof i' Z' hi' hZ' with ⟨h1', h2', h3'⟩ | ⟨rfl, rfl⟩
    · exact h.inj i i' m m' Z Z' h3 hZ h3' hZ' (hloc i m h1 hm) (hloc i' m' h1' hm') hbb
    · rw [Ctx.bind_same] at hm'
      cases hm'
      exact absurd (h.inj i k m l Z X h3 hZ hk hX (hloc i m h1 hm) hl (hbb.trans hb)) h2
    · rw [Ctx.bind_same] at hm
      cases hm
      exact absurd (h.inj i' k m' l Z' X h3' hZ' hk hX (hloc i' m' h1' hm') hl (hbb.symm.trans hb)) h2'
    · rfl

/-! ### alloc, box -/
def vAlloc (E : Env) (T : TypeId) (st : St) (k : AVal → List ABox → List ABox → Prop) : Prop :=
  match E.zero T with
  | some zs => k (.ptr 1 st.next 0 0) st.base (st.loc ++ [.box false (zs.map .v)])
  | none => False
def vBox (st : St) (x : AVal) (k : AVal → List ABox → List ABox → Prop) : Prop :=
  match x.flat with
  | some vs => k (.ptr 1 st.next 0 0) st.base (st.loc ++ [.box false vs])
  | none => False

theorem vAlloc_ok (hE : EnvOk P E) {T : TypeId} {st : St} {k : AVal → List ABox → List ABox → Prop} (hk : vAlloc E T st k) {n : Nat} {c : Ctx} {a : Act} {w : World} (hst : RelSt n c st a w) :
    ∃ z w' c' r b l, (Instr.alloc T true (.tuple #[])).run P w = .ok z w' ∧ Ext c c' ∧ RelV c' r z ∧ RelH c' (b ++ l) w' ∧ b.length = n ∧ k r b l := by
  unfold vAlloc at hk
  split at hk
  · rename_i zs hT
    obtain ⟨i, z, h1, h2, h3⟩ := hE.zero _ _ hT
    obtain ⟨c', he, hl, hh⟩ := hst.heap.newBox z.cells T (zs.map .v) (by rw [h3]; simp) (fun j hj => by
      rw [h3, getD_map_v _ _ (by simpa using hj)]; exact .v _)
    refine ⟨.pointer (some ⟨w.heap.size, 0, none⟩), _, c', _, st.base, _, ?_, he, ?_, by rw [← List.append_assoc]; exact hh, hst.hn, hk⟩
    · simp [Instr.alloc, zeroValue, typeInfo, h1, h2, newVar, newRow]
    · have := RelV.ptr (c := c') (sz := 1) (i := 0) (j := 0) hl
      simpa [St.next] using this
  · exact hk.elim

theorem vBox_ok {T : TypeId} {st : St} {X : AVal} {k : AVal → List ABox → List ABox → Prop} (hk : vBox st X k) {n : Nat} {c : Ctx} {a : Act} {w : World} (hst : RelSt n c st a w) {u : Value} (hx : RelV c X u) :
    ∃ z w' c' r b l, (Instr.box T u).run P w = .ok z w' ∧ Ext c c' ∧ RelV c' r z ∧ RelH c' (b ++ l) w' ∧ b.length = n ∧ k r b l := by
  unfold vBox at hk
  split at hk
  · rename_i vs hf
    obtain ⟨hl, hr⟩ := flat_ok hf hx
    obtain ⟨c', he, hlc, hh⟩ := hst.heap.newBox u.cells T vs hl hr
    refine ⟨.pointer (some ⟨w.heap.size, 0, none⟩), _, c', _, st.base, _, ?_, he, ?_, by rw [← List.append_assoc]; exact hh, hst.hn, hk⟩
    · simp [Instr.box, newVar, newRow]
    · have := RelV.ptr (c := c') (sz := 1) (i := 0) (j := 0) hlc
      simpa [St.next] using this
  · exact hk.elim

/-! ### store -/
theorem setRange_length {cs vs : List AVal} {j : Nat} (h : j + vs.length ≤ cs.length) : (setRange cs j vs).length = cs.length := by
  simp [setRange]; omega
theorem setRange_getD {cs vs : List AVal} {j i : Nat} (h : j + vs.length ≤ cs.length) :
    (setRange cs j vs).getD i .junk = if j ≤ i ∧ i < j + vs.length then vs.getD (i - j) .junk else cs.getD i .junk := by
  unfold setRange
  simp only [List.getD, List.append_assoc, List.getElem?_append, List.length_take, List.getElem?_take, List.getElem?_drop]
  have hm : min j cs.length = j := by omega
  rw [hm]
  by_cases h1 : i < j
  · have : ¬ (j ≤ i ∧ i < j + vs.length) := by omega
    simp [h1, this]
  · by_cases h2 : i < j + vs.length
    · have h3 : i - j < vs.length := by omega
      have h4 : j ≤ i ∧ i < j + vs.length := by omega
      simp [h1, h3, h4]
    · have h3 : ¬ i - j < vs.length := by omega
      have h4 : ¬ (j ≤ i ∧ i < j + vs.length) := by omega
      have h5 : j + vs.length + (i - j - vs.length) = i := by omega
      simp [h1, h3, h4, h5]

/-- The cells of the world behind a store. -/
theorem stored_get (cells : Array Value) (o : Nat) (vs : List Value) (h : o + vs.length ≤ cells.size) (i : Nat) :
    ((cells.toList.take o ++ vs ++ cells.toList.drop (o + vs.length)).toArray)[i]? = if o ≤ i ∧ i < o + vs.length then some (vs.getD (i - o) undef) else cells[i]? := by
  simp only [List.getElem?_toArray, List.append_assoc, List.getElem?_append, List.length_take, Array.length_toList, List.getElem?_take, List.getElem?_drop, Array.getElem?_toList]
  have hm : min o cells.size = o := by omega
  rw [hm]
  by_cases h1 : i < o
  · have : ¬ (o ≤ i ∧ i < o + vs.length) := by omega
    simp [h1, this]
  · by_cases h2 : i < o + vs.length
    · have h3 : i - o < vs.length := by omega
      have h4 : o ≤ i ∧ i < o + vs.length := by omega
      simp [h1, h3, h4]
    · have h3 : ¬ i - o < vs.length := by omega
      have h4 : ¬ (o ≤ i ∧ i < o + vs.length) := by omega
      have h5 : o + vs.length + (i - o - vs.length) = i := by omega
      simp [h1, h3, h4, h5]

theorem run_storeVar (hE : EnvOk P E) {T : TypeId} {agg : Bool} {sz : Nat} (hT : E.var T = some (agg, sz)) {w : World} {b o : Nat} {cells : Array Value} {T' : TypeId} (hb : w.heap[b]? = some (.cells cells T' (0, 0)))
    {u : Value} (hl : u.cells.toList.length = sz) (h1 : ∀ x ∈ u.cells.toList, x.oneCell' = true) (hfit : o + sz ≤ cells.size) :
    (storeVar T ⟨b, o, none⟩ u).run P w = .ok () (w.setRow b (cells.toList.take o ++ u.cells.toList ++ cells.toList.drop (o + u.cells.toList.length)).toArray) := by
  obtain ⟨d, i, t1, t2, t3, t4⟩ := hE.var _ _ _ hT
  have hsz : u.cells.size = sz := by simpa using hl
  have := run_storeCells_at P b o T' u.cells.toList 0 cells w hb (by rw [hl]; exact hfit) h1
  simp only [Nat.add_zero] at this
  simp only [storeVar, Sem.run_bind, run_sizeOf t3, Result.andThen_ok, t4, hsz, ne_eq, not_true_eq_false, if_false]
  exact this

theorem St.setBox_ok {st : St} {id : Nat} {X : ABox} {K : List ABox → List ABox → Prop} (h : st.setBox id X K) {n : Nat} (hn : st.base.length = n) :
    ∃ b l, b ++ l = (st.base ++ st.loc).set id X ∧ b.length = n ∧ K b l := by
  unfold St.setBox at h
  split at h
  · rename_i hlt
    exact ⟨_, _, by rw [List.set_append_left _ _ hlt], by simpa using hn, h⟩
  · rename_i hge
    exact ⟨_, _, by rw [List.set_append_right _ _ (by omega)], hn, h⟩

theorem vStore_ok (hE : EnvOk P E) {T : TypeId} {st : St} {X Y : AVal} {k : List ABox → List ABox → Prop} (hk : vStore E T st X Y k) {n : Nat} {c : Ctx} {a : Act} {w : World} (hst : RelSt n c st a w)
    {u v : Value} (hx : RelV c X u) (hy : RelV c Y v) :
    ∃ w' b l, (Instr.storeAt T u v).run P w = .ok () w' ∧ RelH c (b ++ l) w' ∧ b.length = n ∧ k b l := by
  unfold vStore at hk
  split at hk
  · rename_i agg sz esz id i j vs hT hf
    obtain ⟨hvl, hpos, hcell, hk⟩ := hk
    obtain ⟨hfl, hfr⟩ := flat_ok hf hy
    have h1 : ∀ x ∈ v.cells.toList, x.oneCell' = true := fun x hx => by
      obtain ⟨q, hq, rfl⟩ := List.mem_iff_getElem.1 hx
      have hq' : q < vs.length := by omega
      have := hfr q hq'
      have e0 : v.cells.toList.getD q undef = v.cells.toList[q] := by rw [List.getD, List.getElem?_eq_getElem hq]; rfl
      rw [e0] at this
      refine this.oneCell ?_
      have hall := List.all_eq_true.1 hcell (vs.getD q .junk) (by simp [List.getD, hq'])
      exact hall
    cases hx with
    | @ptr _ _ _ _ l hl =>
      have hsta : ∀ A : Addr, (Instr.storeAt T (.pointer (some A)) v).run P w = (storeVar T A v).run P w := fun A => by simp [Instr.storeAt, Instr.sureAddr]
      simp only [hsta]
      split at hk
      · rename_i cs hb
        obtain ⟨rfl, hfit, hk⟩ := hk
        obtain ⟨l', hl', cells, T', g1, g2, g3⟩ := hst.heap.box id _ (St.get_some hb rfl) rfl
        rw [hl] at hl'; cases hl'
        have hsize : l.off + cs.length ≤ cells.size := by
          rcases Nat.eq_zero_or_pos cs.length with h0 | h0
          · omega
          · obtain ⟨u, hu, _⟩ := g3 (cs.length - 1) (by omega)
            have := (Array.getElem?_eq_some_iff.1 hu).1
            omega
        have hrun := run_storeVar hE hT (o := l.off + 0 * esz + j) g1 (u := v) (by rw [hfl]; exact hvl) h1 (by omega)
        obtain ⟨b, l2, hbl, hn, hK⟩ := St.setBox_ok hk hst.hn
        refine ⟨_, b, l2, hrun, ?_, hn, hK⟩
        rw [hbl]
        refine hst.heap.write (St.get_some hb rfl) rfl hl g2 _ ⟨_, T', setRow_heap w _ _ _ _ _ g1, g2, fun m hm => ?_⟩
        rw [setRange_length (by omega)] at hm
        rw [stored_get _ _ _ (by rw [hfl]; omega), setRange_getD (by omega), hfl]
        by_cases hin : j ≤ m ∧ m < j + vs.length
        · rw [if_pos (by omega), if_pos hin]
          refine ⟨_, rfl, ?_⟩
          have e : l.off + m - (l.off + 0 * esz + j) = m - j := by omega
          rw [e]; exact hfr (m - j) (by omega)
        · rw [if_neg (by omega), if_neg hin]
          exact g3 m hm
      · rename_i e xs hb
        obtain ⟨rfl, hi, hfit, hk⟩ := hk
        split at hk
        · rename_i y hdec
          have henc := ETy.enc_dec _ _ _ hdec
          obtain ⟨l', hl', cells, T', g1, g2, g3, g4, g5⟩ := hst.heap.box id _ (St.get_some hb rfl) rfl
          rw [hl] at hl'; cases hl'
          have hsize : l.off + i * e.sz + e.sz ≤ cells.size := by
            have : i * e.sz + e.sz ≤ l.cap * e.sz := by rw [← Nat.succ_mul]; exact Nat.mul_le_mul_right _ (by omega)
            omega
          have hrun := run_storeVar hE hT (o := l.off + i * e.sz + j) g1 (u := v) (by rw [hfl]; exact hvl) h1 (by omega)
          obtain ⟨b, l2, hbl, hn, hK⟩ := St.setBox_ok hk hst.hn
          refine ⟨_, b, l2, hrun, ?_, hn, hK⟩
          rw [hbl]
          refine hst.heap.write (St.get_some hb rfl) rfl hl g2 _ ⟨_, T', setRow_heap w _ _ _ _ _ g1, g2, ?_, by simpa using g4, fun p q hp hq => ?_⟩
          · have : (cells.toList.take (l.off + i * e.sz + j) ++ v.cells.toList ++ cells.toList.drop (l.off + i * e.sz + j + v.cells.toList.length)).toArray.size = cells.size := by
              simp only [List.size_toArray, List.length_append, List.length_take, List.length_drop, Array.length_toList] at hfl ⊢
              omega
            rw [this]; exact g3
          · have hp' : p < xs.length := by simpa using hp
            rw [stored_get _ _ _ (by rw [hfl]; omega), hfl]
            have hgd : (xs.set i y).getD p e.d = if i = p then y else xs.getD p e.d := by
              simp only [List.getD, List.getElem?_set]
              by_cases hip : i = p
              · subst hip; simp [hp']
              · simp [hip]
            rw [hgd]
            by_cases hip : i = p
            · subst hip
              rw [if_pos rfl, henc, setRange_getD (by rw [ETy.enc_length]; omega)]
              by_cases hin : j ≤ q ∧ q < j + vs.length
              · rw [if_pos (by omega), if_pos hin]
                refine ⟨_, rfl, ?_⟩
                have e1 : l.off + i * e.sz + q - (l.off + i * e.sz + j) = q - j := by omega
                rw [e1]; exact hfr (q - j) (by omega)
              · rw [if_neg (by omega), if_neg hin]
                exact g5 i q hi hq
            · rw [if_neg hip, if_neg ?_]
              · exact g5 p q hp' hq
              · rcases Nat.lt_or_ge p i with h2 | h2
                · have : p * e.sz + e.sz ≤ i * e.sz := by rw [← Nat.succ_mul]; exact Nat.mul_le_mul_right _ h2
                  omega
                · have : i * e.sz + e.sz ≤ p * e.sz := by rw [← Nat.succ_mul]; exact Nat.mul_le_mul_right _ (by omega)
                  omega
        · exact hk.elim
      · exact hk.elim
  · exact hk.elim

end Go.Eng

/- Texts of this seat that the law stands on, put together. No conditions. -/
import Derived.Lib.BufferRead
import Derived.Test.YtkblikjpdnakiaaT0
section
set_option linter.unusedSimpArgs false
set_option linter.unusedVariables false
namespace Go.Eng
theorem RelV.v_inv {c : Ctx} {x u : Value} (h : RelV c (.v x) u) : u = x := by cases h; rfl
theorem RelV.agg2_inv {c : Ctx} {x y : Value} {u : Value} (h : RelV c (.agg [.v x, .v y]) u) : u = .agg #[x, y] := by
  cases h with
  | @agg cs vs hl h =>
    match vs, hl with
    | [p, q], _ =>
      have h0 := (h 0 (by simp)).v_inv
      have h1 := (h 1 (by simp)).v_inv
      simp at h0 h1
      subst h0; subst h1; rfl
theorem RelV.agg3_inv {c : Ctx} {x y z : Value} {u : Value} (h : RelV c (.agg [.v x, .v y, .v z]) u) : u = .agg #[x, y, z] := by
  cases h with
  | @agg cs vs hl h =>
    match vs, hl with
    | [p, q, r], _ =>
      have h0 := (h 0 (by simp)).v_inv
      have h1 := (h 1 (by simp)).v_inv
      have h2 := (h 2 (by simp)).v_inv
      simp at h0 h1 h2
      subst h0; subst h1; subst h2; rfl
theorem ba_toList_eq (a b : ByteArray) : (a.toList == b.toList) = decide (a = b) := by
  rw [ByteArray.toList_eq, ByteArray.toList_eq]
  by_cases h : a = b
  · subst h; simp
  · have : a.data.toList ≠ b.data.toList := fun e => h (by
      cases a; cases b; simp at e; exact congrArg _ e)
    rw [decide_eq_false h]; exact beq_eq_false_iff_ne.2 this
variable {P : Program} {E : Env}
theorem wp_value {o : Oper} {a : Act} {w w' : World} {K : Act → World → Prop} {Q : Exit → Act → World → Prop} {v : Value}
    (h : (execOp a.eval o).run P w = .ok (.value v) w') (hk : K (a.put o.dst v) w') : o.wp P a w K Q := by
  unfold Oper.wp; rw [h]; exact hk
theorem run_ifc_nil {t : TypeId} {ms : _} (h : P.underlying t = some (.interface ms)) (tx : TypeId) (vx : Value) (w : World) : (Op.equal t (.iface tx vx) .nilIface).run P w = .ok false w := by
  unfold Op.equal
  rw [show Op.maxDepth = 9999 + 1 from rfl, Op.equalIn]
  simp only [Sem.run_bind, run_underlying h, Result.andThen_ok, Sem.run_pure]
theorem run_nil_nil {t : TypeId} {ms : _} (h : P.underlying t = some (.interface ms)) (w : World) : (Op.equal t .nilIface .nilIface).run P w = .ok true w := by
  unfold Op.equal
  rw [show Op.maxDepth = 9999 + 1 from rfl, Op.equalIn]
  simp only [Sem.run_bind, run_underlying h, Result.andThen_ok, Sem.run_pure]
set_option maxHeartbeats 1000000 in
theorem vBin_ok (hE : EnvOk P E) {op : BinOp} {T : TypeId} {X Y : AVal} {k : AVal → Prop} {xo yo : Operand} (hk : vBin E op T (isC xo || isC yo) X Y k) {c : Ctx} {u v : Value} (hx : RelV c X u) (hy : RelV c Y v) (w : World) :
    ∃ z r, (do eqGuard op T xo yo u v; binOp op T u v : Sem Value).run P w = .ok z w ∧ RelV c r z ∧ k r := by
  unfold vBin at hk
  split at hk
  case h_12 a b =>
    have e1 := hx.v_inv; have e2 := hy.v_inv; subst e1; subst e2
    have h1 := run_eql_bool (P := P) w T a b (hE.knd _ _ hk.1)
    refine ⟨_, _, ?_, .v _, hk.2⟩
    simp [eqGuard, h1]
    cases a <;> cases b <;> rfl
  case h_13 a b =>
    have e1 := hx.v_inv; have e2 := hy.v_inv; subst e1; subst e2
    have h1 := run_equal_bool (P := P) w T a b (hE.knd _ _ hk.1)
    refine ⟨_, _, ?_, .v _, hk.2⟩
    simp [eqGuard, binOp, h1]
    cases a <;> cases b <;> rfl
  case h_14 a b =>
    have e1 := hx.v_inv; have e2 := hy.v_inv; subst e1; subst e2
    refine ⟨_, _, ?_, .v _, hk.2⟩
    have := hk.1
    have h2 : ¬ ((a.size + b.size : Nat) : Int) > IntKind.i64.max := by
      have : IntKind.i64.max = 9223372036854775807 := rfl
      omega
    simp [eqGuard, binOp, Op.stringOp]
    omega
  case h_15 a b =>
    have e1 := hx.v_inv; have e2 := hy.v_inv; subst e1; subst e2
    refine ⟨_, _, ?_, .v _, hk⟩
    simp [eqGuard, binOp, Op.stringOp, ba_toList_eq]
  case h_16 a b =>
    have e1 := hx.v_inv; have e2 := hy.v_inv; subst e1; subst e2
    refine ⟨_, _, ?_, .v _, hk⟩
    simp [eqGuard, binOp, Op.stringOp, ba_toList_eq]
  case h_17 a b c' d =>
    have e1 := hx.agg2_inv; have e2 := hy.agg2_inv; subst e1; subst e2
    refine ⟨_, _, ?_, .v _, hk.2⟩
    obtain ⟨h1, h2⟩ := hE.pts T hk.1 a b c' d w
    simp only [Sem.run_bind, h2, Result.andThen_ok, binOp, h1, Sem.run_pure]
  case h_18 a b c' d =>
    have e1 := hx.agg2_inv; have e2 := hy.agg2_inv; subst e1; subst e2
    refine ⟨_, _, ?_, .v _, hk.2⟩
    obtain ⟨h1, h2⟩ := hE.pts T hk.1 a b c' d w
    simp only [Sem.run_bind, h2, Result.andThen_ok, binOp, h1, Sem.run_pure, decide_not]
  case h_19 => 
    have e1 := hx.v_inv; have e2 := hy.v_inv; subst e1; subst e2
    obtain ⟨rfl, hk⟩ := hk
    exact ⟨_, _, by simp [eqGuard, binOp, Op.intBits]; rfl, .v _, hk⟩
  case h_20 =>
    have e1 := hx.v_inv; have e2 := hy.v_inv; subst e1; subst e2
    obtain ⟨rfl, hk⟩ := hk
    exact ⟨_, _, by simp [eqGuard, binOp, Op.intBits]; rfl, .v _, hk⟩
  case h_21 =>
    have e1 := hx.v_inv; have e2 := hy.v_inv; subst e1; subst e2
    obtain ⟨rfl, hk⟩ := hk
    exact ⟨_, _, by simp [eqGuard, binOp]; unfold Op.intBits; rfl, .v _, hk⟩
  case h_22 =>
    have e1 := hx.v_inv; have e2 := hy.v_inv; subst e1; subst e2
    obtain ⟨rfl, hk⟩ := hk
    exact ⟨_, _, by simp [eqGuard, binOp, Op.intBits]; rfl, .v _, hk⟩
  case h_23 i a j b =>
    have e1 := hx.v_inv; have e2 := hy.v_inv; subst e1; subst e2
    obtain ⟨h0, hk⟩ := hk
    have h1 : ¬ b < 0 := by omega
    exact ⟨_, _, by simp [eqGuard, binOp, Op.shift, h1], .v _, hk⟩
  case h_24 i a j b =>
    have e1 := hx.v_inv; have e2 := hy.v_inv; subst e1; subst e2
    obtain ⟨h0, hk⟩ := hk
    have h1 : ¬ b < 0 := by omega
    exact ⟨_, _, by simp [eqGuard, binOp, Op.shift, h1], .v _, hk⟩
  case h_25 t p =>
    have e1 := hx.v_inv; have e2 := hy.v_inv; subst e1; subst e2
    obtain ⟨ms, h1⟩ := hE.ifc _ hk.1
    exact ⟨_, _, by simp [eqGuard, binOp, run_ifc_nil h1], .v _, hk.2⟩
  case h_26 t p =>
    have e1 := hx.v_inv; have e2 := hy.v_inv; subst e1; subst e2
    obtain ⟨ms, h1⟩ := hE.ifc _ hk.1
    exact ⟨_, _, by simp [eqGuard, binOp, run_ifc_nil h1], .v _, hk.2⟩
  case h_27 =>
    have e1 := hx.v_inv; have e2 := hy.v_inv; subst e1; subst e2
    obtain ⟨ms, h1⟩ := hE.ifc _ hk.1
    have h2 := hk.2.1
    refine ⟨.bool true, _, ?_, .v _, hk.2.2⟩
    have hg : (eqGuard .eql T xo yo .nilIface .nilIface).run P w = .ok () w := by
      unfold isC at h2
      cases xo <;> cases yo <;> first | rfl | (simp at h2)
    rw [Sem.run_bind, hg]
    simp [binOp, run_nil_nil h1]
  case h_28 =>
    have e1 := hx.v_inv; have e2 := hy.v_inv; subst e1; subst e2
    obtain ⟨ms, h1⟩ := hE.ifc _ hk.1
    have h2 := hk.2.1
    refine ⟨.bool false, _, ?_, .v _, hk.2.2⟩
    have hg : (eqGuard .neq T xo yo .nilIface .nilIface).run P w = .ok () w := by
      unfold isC at h2
      cases xo <;> cases yo <;> first | rfl | (simp at h2)
    rw [Sem.run_bind, hg]
    simp [binOp, run_nil_nil h1]
  case h_29 a b =>
    have e1 := hx.v_inv; have e2 := hy.v_inv; subst e1; subst e2
    refine ⟨_, _, ?_, .v _, hk⟩
    simp [eqGuard, binOp, Op.stringOp]
  case h_30 => exact hk.elim
  all_goals
    have e1 := hx.v_inv; have e2 := hy.v_inv; subst e1; subst e2
    obtain ⟨rfl, hk⟩ := hk
  case h_4 => obtain ⟨h0, hk⟩ := hk; exact ⟨_, _, by simp [eqGuard, binOp, Op.intDiv, h0], .v _, hk⟩
  case h_5 => obtain ⟨h0, hk⟩ := hk; exact ⟨_, _, by simp [eqGuard, binOp, Op.intDiv, h0], .v _, hk⟩
  case h_6 i a b => exact ⟨.bool (a == b), _, by simp [eqGuard, binOp, Op.intCmp], by rw [show (a == b) = decide (a = b) from rfl]; exact .v _, hk⟩
  case h_7 i a b => exact ⟨.bool (a != b), _, by simp [eqGuard, binOp, Op.intCmp], by rw [show (a != b) = decide (a ≠ b) from by rw [decide_not]; rfl]; exact .v _, hk⟩
  all_goals exact ⟨_, _, by simp [eqGuard, binOp, Op.intArith, Op.intCmp], .v _, hk⟩
theorem vUn_ok {op : UnOp} {X : AVal} {k : AVal → Prop} (hk : vUn op X k) {c : Ctx} {u : Value} (hx : RelV c X u) (w : World) :
    ∃ z r, (Op.unary op u).run P w = .ok z w ∧ RelV c r z ∧ k r := by
  unfold vUn at hk
  split at hk
  · have e1 := hx.v_inv; subst e1; exact ⟨_, _, rfl, .v _, hk⟩
  · have e1 := hx.v_inv; subst e1; exact ⟨_, _, rfl, .v _, hk⟩
  · exact hk.elim
theorem addr_add (b o n : Nat) : (⟨b, o, none⟩ : Addr).add n = ⟨b, o + n, none⟩ := by
  unfold Addr.add; split <;> simp_all
theorem vConv_ok (hE : EnvOk P E) {src dst : TypeId} {X : AVal} {k : AVal → Prop} (hk : vConv E src dst X k) {c : Ctx} {u : Value} (hx : RelV c X u) {H : List ABox} {w : World} (hh : RelH c H w) :
    ∃ z r, (convert src dst u).run P w = .ok z w ∧ RelV c r z ∧ k r := by
  unfold vConv at hk
  split at hk
  · rename_i h1 h2
    have e1 := hx.v_inv; subst e1
    refine ⟨_, _, ?_, .v _, hk⟩
    simp only [convert, Sem.run_bind, run_underlying (hE.knd _ _ h1), run_underlying (hE.knd _ _ h2), Result.andThen_ok]
    rfl
  · rename_i xs h2
    obtain ⟨⟨hb, hxs⟩, hk⟩ := hk
    obtain ⟨et, t1, t2⟩ := hE.byt _ hb
    refine ⟨_, _, ?_, .v _, hk⟩
    have hl8 : (xs.map fun n => UInt8.ofNat n.toNat).map (fun b => (b.toNat : Int)) = xs := by
      rw [List.map_map]
      conv => rhs; rw [← List.map_id xs]
      refine List.map_congr_left fun n hn => ?_
      have h9 : (0 : Int) ≤ (show Int from n) ∧ (show Int from n) < 256 := hxs n hn
      show ((UInt8.ofNat (show Int from n).toNat).toNat : Int) = (show Int from n)
      generalize (show Int from n) = n at h9 ⊢
      have h8 : n.toNat % 256 = n.toNat := Nat.mod_eq_of_lt (by omega)
      rw [UInt8.toNat_ofNat', show (2 : Nat) ^ 8 = 256 from rfl, h8]
      omega
    cases hx with
    | @rd _ _ ad cp n' g hl hcp ha hr =>
      subst hl
      rcases Nat.eq_zero_or_pos xs.length with h0 | hp
      · have hx0 : xs = [] := List.length_eq_zero_iff.1 h0
        subst hx0
        cases ad with
        | none => exact Go.Lib.run_convert_nil_bytes w src dst et cp t1 t2 (hE.knd _ _ h2)
        | some a => exact Go.run_convert_bytes_back w src dst et a cp [] t1 t2 (hE.knd _ _ h2) (fun j hj => absurd hj (by simp))
      · obtain ⟨b, o, cells, T, fr, rfl, h3, h4⟩ := ha hp
        have hw := hh.sealed _ _ h3
        have := Go.run_convert_bytes_back (P := P) w src dst et ⟨b, o, none⟩ cp (xs.map fun n => UInt8.ofNat n.toNat) t1 t2 (hE.knd _ _ h2) (fun j hj => by
          have hj' : j < xs.length := by simpa using hj
          have h5 := h4 j 0 hj' (by decide)
          have h6 := (hr j 0 hj' (by decide)).v_inv
          simp only [ETy.sz, Nat.mul_one, Nat.add_zero] at h5
          rw [addr_add]
          show (match w.heap[b]? with | some (.cells c _ _) => _ | _ => _) = _
          rw [hw]
          simp only [Option.isSome, Bool.false_eq_true, if_false]
          rw [h5, h6]
          have e1 : ((xs.map fun n => UInt8.ofNat n.toNat)[j].toNat : Int) = xs[j] := by
            have := congrArg (fun l => l[j]?) hl8
            simp only [List.getElem?_map, List.getElem?_eq_getElem hj, List.getElem?_eq_getElem hj', Option.map_some] at this
            simpa using this
          rw [e1]
          simp [List.getD, hj'])
        rw [List.length_map] at this
        exact this
  · exact hk.elim
/-! ### Reading memory -/
theorem run_loadVar_cells (hE : EnvOk P E) {T : TypeId} {agg : Bool} {sz : Nat} (hT : E.var T = some (agg, sz)) {w : World} {b o : Nat} (vs : List Value)
    (hv : ∀ j, j < vs.length → w.cell? ⟨b, o + j, none⟩ = some (vs.getD j undef)) :
    (agg = true → vs.length = sz → (loadVar T ⟨b, o, none⟩).run P w = .ok (.agg vs.toArray) w) ∧
    (agg = false → 0 < vs.length → (loadVar T ⟨b, o, none⟩).run P w = .ok (vs.getD 0 undef) w) := by
  obtain ⟨d, i, h1, h2, h3, h4⟩ := hE.var _ _ _ hT
  have hagg : (isAgg T).run P w = .ok agg w := by
    unfold isAgg
    simp only [Sem.run_bind, run_underlying h1, Result.andThen_ok]
    cases d <;> simp at h2 <;> subst h2 <;> rfl
  constructor
  · intro ha hl
    subst ha
    have hload := run_loadCells_list (P := P) (w := w) ⟨b, o, none⟩ vs (fun j v hj => by
      have hlt : j < vs.length := (List.getElem?_eq_some_iff.1 hj).1
      rw [addr_add, hv j hlt]
      simp [List.getD, hj])
    simp only [loadVar, Sem.run_bind, hagg, Result.andThen_ok, if_true, sizeOf, typeInfo, run_program]
    simp [h3, h4, ← hl, hload]
  · intro ha hl
    subst ha
    have := hv 0 hl
    simp only [Nat.add_zero] at this
    simp [loadVar, hagg, this]
theorem cell_of_block {w : World} {b : Nat} {cells : Array Value} {T : TypeId} {fr : Nat × Nat} (h : w.heap[b]? = some (.cells cells T fr)) (o : Nat) : w.cell? ⟨b, o, none⟩ = cells[o]? := by
  simp [World.cell?, h]
/-- The general form of a read: the cells from o on hold what cs says. -/
theorem vPart_ok (hE : EnvOk P E) {T : TypeId} {agg : Bool} {sz : Nat} (hT : E.var T = some (agg, sz)) {cs : List AVal} {j : Nat} {k : AVal → Prop} (hk : vPart agg sz cs j k) {c : Ctx} {w : World} {b o : Nat}
    (hc : ∀ i, i < cs.length → ∃ u, w.cell? ⟨b, o + i, none⟩ = some u ∧ RelV c (cs.getD i .junk) u) :
    ∃ z r, (loadVar T ⟨b, o + j, none⟩).run P w = .ok z w ∧ RelV c r z ∧ k r := by
  have hf : ∃ f : Nat → Value, ∀ i, i < cs.length → w.cell? ⟨b, o + i, none⟩ = some (f i) ∧ RelV c (cs.getD i .junk) (f i) :=
    ⟨fun i => (w.cell? ⟨b, o + i, none⟩).getD undef, fun i hi => by obtain ⟨u, h1, h2⟩ := hc i hi; simp only [h1]; exact ⟨rfl, h2⟩⟩
  obtain ⟨f, hf⟩ := hf
  unfold vPart at hk
  cases agg with
  | true =>
    obtain ⟨hle, hk⟩ := hk
    have hvl : ((List.range sz).map fun i => f (j + i)).length = sz := by simp
    have hget : ∀ i, i < sz → ((List.range sz).map fun i => f (j + i)).getD i undef = f (j + i) := fun i hi => by simp [List.getD, hi]
    have h1 := (run_loadVar_cells hE hT (w := w) (b := b) (o := o + j) ((List.range sz).map fun i => f (j + i)) (fun i hi => by
      rw [hvl] at hi
      rw [hget i hi, Nat.add_assoc, (hf (j + i) (by omega)).1])).1 rfl hvl
    refine ⟨_, _, h1, .agg (by simp; omega) (fun i hi => ?_), hk⟩
    have hi' : i < sz := by simp at hi; omega
    rw [hget i hi']
    have := (hf (j + i) (by omega)).2
    have e : ((cs.drop j).take sz).getD i .junk = cs.getD (j + i) .junk := by
      simp [List.getD, hi']
    rw [e]; exact this
  | false =>
    obtain ⟨hlt, hk⟩ := hk
    have h1 := (run_loadVar_cells hE hT (w := w) (b := b) (o := o + j) [f j] (fun i hi => by
      obtain rfl : i = 0 := by simpa using hi
      exact (hf j hlt).1)).2 rfl (by simp)
    exact ⟨_, _, h1, (hf j hlt).2, hk⟩
/-- What a live box says of the cells. -/
theorem RelB.row_cells {c : Ctx} {w : World} {l : Loc} {ro : Bool} {e : ETy} {xs : List e.T} (h : RelB c w l (.row ro e xs)) {i : Nat} (hi : i < xs.length) :
    ∀ j, j < (e.enc (xs.getD i e.d)).length → ∃ u, w.cell? ⟨l.blk, l.off + i * e.sz + j, none⟩ = some u ∧ RelV c ((e.enc (xs.getD i e.d)).getD j .junk) u := by
  obtain ⟨cells, T, h1, h2, h3, h4, h6⟩ := h
  intro j hj
  rw [ETy.enc_length] at hj
  obtain ⟨u, hu, hr⟩ := h6 i j hi hj
  exact ⟨u, (cell_of_block h1 _).trans hu, hr⟩
theorem RelB.box_cells {c : Ctx} {w : World} {l : Loc} {ro : Bool} {cs : List AVal} (h : RelB c w l (.box ro cs)) :
    ∀ j, j < cs.length → ∃ u, w.cell? ⟨l.blk, l.off + j, none⟩ = some u ∧ RelV c (cs.getD j .junk) u := by
  obtain ⟨cells, T, h1, h2, h6⟩ := h
  intro j hj
  obtain ⟨u, hu, hr⟩ := h6 j hj
  exact ⟨u, (cell_of_block h1 _).trans hu, hr⟩
theorem St.get_some {st : St} {k : Nat} {X : ABox} (h : st.get k = X) (hX : X.live = true) : (st.base ++ st.loc)[k]? = some X := by
  unfold St.get at h
  rw [List.getD] at h
  cases h2 : (st.base ++ st.loc)[k]? with
  | none => rw [h2] at h; subst h; cases hX
  | some Y => rw [h2] at h; simp at h; rw [h]
theorem vLoad_ok (hE : EnvOk P E) {T : TypeId} {st : St} {X : AVal} {k : AVal → Prop} (hk : vLoad E T st X k) {n : Nat} {c : Ctx} {a : Act} {w : World} (hst : RelSt n c st a w) {u : Value} (hx : RelV c X u) :
    ∃ z r, (Instr.loadAt T u).run P w = .ok z w ∧ RelV c r z ∧ k r := by
  unfold vLoad at hk
  split at hk
  · rename_i agg sz esz id i j hT
    cases hx with
    | @ptr _ _ _ _ l hl =>
      have hrun : ∀ A : Addr, (Instr.loadAt T (.pointer (some A))).run P w = (loadVar T A).run P w := fun A => by simp [Instr.loadAt, Instr.sureAddr]
      rw [hrun]
      split at hk
      · rename_i ro cs hb
        obtain ⟨rfl, hk⟩ := hk
        obtain ⟨l', hl', hB⟩ := hst.heap.box id _ (St.get_some hb rfl) rfl
        rw [hl] at hl'; cases hl'
        have := vPart_ok hE hT hk (w := w) (c := c) (b := l.blk) (o := l.off) hB.box_cells
        simpa using this
      · rename_i ro e xs hb
        obtain ⟨rfl, hi, hk⟩ := hk
        obtain ⟨l', hl', hB⟩ := hst.heap.box id _ (St.get_some hb rfl) rfl
        rw [hl] at hl'; cases hl'
        exact vPart_ok hE hT hk (w := w) (c := c) (b := l.blk) (o := l.off + i * e.sz) (hB.row_cells hi)
      · exact hk.elim
  · rename_i agg sz cs j hT
    cases hx with
    | @rp _ _ b o cells T' fr g h hc hr =>
      have hrun : ∀ A : Addr, (Instr.loadAt T (.pointer (some A))).run P w = (loadVar T A).run P w := fun A => by simp [Instr.loadAt, Instr.sureAddr]
      rw [hrun]
      have hh := hst.heap.sealed _ _ h
      exact vPart_ok hE hT hk (w := w) (c := c) (b := b) (o := o) (fun i hi => ⟨g i, (cell_of_block hh _).trans (hc i hi), hr i hi⟩)
  · exact hk.elim
theorem run_sizeOf {T : TypeId} {i : TypeInfo} (h : P.info? T = some i) (w : World) : (sizeOf T).run P w = .ok i.size w := by
  simp [sizeOf, typeInfo, h]
theorem vIdxA_ok (hE : EnvOk P E) {T : TypeId} {X I : AVal} {k : AVal → Prop} (hk : vIdxA E T X I k) {n : Nat} {c : Ctx} {st : St} {a : Act} {w : World} (hst : RelSt n c st a w) {u v : Value} (hx : RelV c X u) (hi : RelV c I v) :
    ∃ z r, (Instr.indexAt T u v).run P w = .ok z w ∧ RelV c r z ∧ k r := by
  unfold vIdxA at hk
  split at hk
  · rename_i e e' xs kk m hT
    obtain ⟨hes, ⟨h0, h1⟩, hk⟩ := hk
    obtain ⟨et, i, z, t1, t2, t3, t4, t5, t6⟩ := hE.sl _ _ hT
    rw [hes] at t3
    have e1 := hi.v_inv; subst e1
    cases hx with
    | @rd _ _ a cp n' g hl hcp ha hr =>
      obtain ⟨b, o, cells, T', fr, rfl, hs, hcell⟩ := ha (by omega)
      have hlt : m.toNat < n' := by omega
      refine ⟨.pointer (some ⟨b, o + m.toNat * e'.sz, none⟩), _, ?_, .rp (j := 0) (o := o + m.toNat * e'.sz) (fun j => g m.toNat j) hs (fun j hj => ?_) (fun j hj => ?_), hk⟩
      · have h1' : m < (n' : Int) := by omega
        simp [Instr.indexAt, asIntOf, run_underlying t1, h0, h1', run_sizeOf t2, t3, addr_add]
      · rw [ETy.enc_length] at hj; exact hcell _ _ hlt hj
      · rw [ETy.enc_length] at hj; exact hr _ _ hlt hj
  · rename_i e sz id off m kk q hT
    obtain ⟨rfl, ⟨h0, h1⟩, hk⟩ := hk
    obtain ⟨et, i, z, t1, t2, t3, t4, t5, t6⟩ := hE.sl _ _ hT
    have e1 := hi.v_inv; subst e1
    cases hx with
    | @sl _ _ _ _ b o l hl hn ha =>
      obtain ⟨rfl, rfl⟩ := ha (by omega)
      refine ⟨.pointer (some ⟨l.blk, l.off + off * e.sz + q.toNat * e.sz, none⟩), _, ?_, ?_, hk⟩
      · simp [Instr.indexAt, asIntOf, run_underlying t1, h0, h1, run_sizeOf t2, t3, addr_add]
      · have := RelV.ptr (c := c) (sz := e.sz) (i := off + q.toNat) (j := 0) hl
        rwa [Nat.add_zero, Nat.add_mul, ← Nat.add_assoc] at this
  · exact hk.elim
theorem vIdx_ok (hE : EnvOk P E) {T : TypeId} {X I : AVal} {k : AVal → Prop} (hk : vIdx E T X I k) {c : Ctx} {u v : Value} (hx : RelV c X u) (hi : RelV c I v) (w : World) :
    ∃ z r, (Instr.index T u v).run P w = .ok z w ∧ RelV c r z ∧ k r := by
  unfold vIdx at hk
  split at hk
  · rename_i s kk m hT
    obtain ⟨⟨h0, h1⟩, hk⟩ := hk
    have e1 := hi.v_inv; subst e1
    have e2 := hx.v_inv; subst e2
    have hlt : m.toNat < s.size := by omega
    refine ⟨_, _, ?_, .v _, hk⟩
    have hg : s[m.toNat]? = some (s.data.getD m.toNat 0) := by
      have hlt' : m.toNat < s.data.size := hlt
      rw [getElem?_pos s m.toNat hlt]
      have : s.data.getD m.toNat 0 = s.data[m.toNat] := by simp only [Array.getD, hlt', dite_true]; rfl
      rw [this]; rfl
    simp only [Instr.index, Sem.run_bind, asIntOf, run_underlying (hE.knd _ _ hT), Result.andThen_ok, Sem.run_pure, if_pos h0, hg]
    rfl
  · exact hk.elim
theorem vFldA_ok (hE : EnvOk P E) {T : TypeId} {f : Nat} {X : AVal} {k : AVal → Prop} (hk : vFldA E T f X k) {c : Ctx} {u : Value} (hx : RelV c X u) (w : World) :
    ∃ z r, (Instr.fieldAt T u f).run P w = .ok z w ∧ RelV c r z ∧ k r := by
  unfold vFldA at hk
  split at hk
  · rename_i o sz id i j hT
    obtain ⟨fs, fl, ii, t1, t2, t3, t4, t5⟩ := hE.fld _ _ _ hT
    cases hx with
    | @ptr _ _ _ _ l hl =>
      refine ⟨.pointer (some ⟨l.blk, l.off + i * sz + (j + o), none⟩), _, ?_, .ptr hl, hk⟩
      simp [Instr.fieldAt, run_underlying t1, t2, Instr.sureAddr, fieldPlace, run_sizeOf t4, t5, addr_add, t3, Nat.add_assoc]
  · rename_i o cs j hT
    obtain ⟨fs, fl, ii, t1, t2, t3, t4, t5⟩ := hE.fld _ _ _ hT
    cases hx with
    | @rp _ _ b o' cells T' fr g h hc hr =>
      refine ⟨.pointer (some ⟨b, o' + (j + o), none⟩), _, ?_, .rp g h hc hr, hk⟩
      simp [Instr.fieldAt, run_underlying t1, t2, Instr.sureAddr, fieldPlace, run_sizeOf t4, t5, addr_add, t3, Nat.add_assoc]
  · exact hk.elim
theorem vExt_ok {X : AVal} {i : Nat} {k : AVal → Prop} (hk : vExt X i k) {c : Ctx} {u : Value} (hx : RelV c X u) (w : World) :
    ∃ z r, (Instr.extract u i).run P w = .ok z w ∧ RelV c r z ∧ k r := by
  unfold vExt at hk
  split at hk
  · obtain ⟨hi, hk⟩ := hk
    cases hx with
    | @tup _ vs hl h =>
      refine ⟨vs.getD i undef, _, ?_, h i hi, hk⟩
      have : i < vs.length := by omega
      simp [Instr.extract, this, List.getD]
  · exact hk.elim
theorem vLen_ok (hE : EnvOk P E) {T ty : TypeId} {X : AVal} {k : AVal → Prop} (hk : vLen E T X k) {c : Ctx} {u : Value} (hx : RelV c X u) (w : World) :
    ∃ z r, (Builtin.len_ #[T] ty #[u]).run P w = .ok z w ∧ RelV c r z ∧ k r := by
  unfold vLen at hk
  split at hk
  · rename_i hT
    have e1 := hx.v_inv; subst e1
    exact ⟨_, _, by simp [Builtin.len_, run_underlying (hE.knd _ _ hT), goInt], .v _, hk⟩
  · rename_i hT
    obtain ⟨et, i, z, t1, _⟩ := hE.sl _ _ hT
    cases hx with
    | @rd _ _ a cp n' g hl hcp ha hr =>
      subst hl
      exact ⟨_, _, by simp [Builtin.len_, run_underlying t1, goInt], .v _, hk⟩
  · rename_i hT
    obtain ⟨et, i, z, t1, _⟩ := hE.sl _ _ hT
    cases hx with
    | sl hl hn ha => exact ⟨_, _, by simp [Builtin.len_, run_underlying t1, goInt], .v _, hk⟩
  · rename_i hT
    obtain ⟨et, i, z, t1, _⟩ := hE.sl _ _ hT
    have e1 := hx.v_inv; subst e1
    exact ⟨_, _, by simp [Builtin.len_, run_underlying t1, goInt], .v _, hk⟩
  · exact hk.elim
theorem vMin_ok {mx : Bool} {ts : Array TypeId} {ty : TypeId} {X Y : AVal} {k : AVal → Prop} (hk : vMin mx X Y k) {c : Ctx} {u v : Value} (hx : RelV c X u) (hy : RelV c Y v) (w : World) :
    ∃ z r, (if mx then Builtin.max_ ts ty #[u, v] else Builtin.min_ ts ty #[u, v]).run P w = .ok z w ∧ RelV c r z ∧ k r := by
  unfold vMin at hk
  split at hk
  · rename_i i a j b
    obtain ⟨rfl, hk⟩ := hk
    have e1 := hx.v_inv; subst e1
    have e2 := hy.v_inv; subst e2
    refine ⟨_, _, ?_, .v _, hk⟩
    cases mx
    · simp [Builtin.min_, Builtin.min2]
      omega
    · simp [Builtin.max_, Builtin.max2]
      omega
  · exact hk.elim
end Go.Eng
end
section
set_option linter.unusedSimpArgs false
set_option linter.unusedVariables false
namespace Go.Eng
variable {P : Program} {E : Env}
/-- The cells of a value, as the abstract cells say. -/
theorem flat_ok {c : Ctx} {X : AVal} {vs : List AVal} (hf : X.flat = some vs) {u : Value} (hx : RelV c X u) :
    u.cells.toList.length = vs.length ∧ ∀ i, i < vs.length → RelV c (vs.getD i .junk) (u.cells.toList.getD i undef) := by
  cases hx with
  | @agg cs ws hl h =>
    simp [AVal.flat] at hf
    subst hf
    exact ⟨by simpa [Value.cells] using hl.symm, fun i hi => by simpa [Value.cells] using h i hi⟩
  | junk => simp [AVal.flat] at hf
  | tup => simp [AVal.flat] at hf
  | v =>
    cases u <;> simp [AVal.flat] at hf <;> subst hf <;> refine ⟨by simp [Value.cells], fun i hi => ?_⟩ <;>
      (obtain rfl : i = 0 := by simpa using hi) <;> exact .v _
  | rd g hl hcp ha hr => simp [AVal.flat] at hf; subst hf; refine ⟨by simp [Value.cells], fun i hi => ?_⟩; obtain rfl : i = 0 := by simpa using hi
                         exact .rd g hl hcp ha hr
  | ptr h => simp [AVal.flat] at hf; subst hf; refine ⟨by simp [Value.cells], fun i hi => ?_⟩; obtain rfl : i = 0 := by simpa using hi
             exact .ptr h
  | sl h hn ha => simp [AVal.flat] at hf; subst hf; refine ⟨by simp [Value.cells], fun i hi => ?_⟩; obtain rfl : i = 0 := by simpa using hi
                  exact .sl h hn ha
  | rp g h hc hr => simp [AVal.flat] at hf; subst hf; refine ⟨by simp [Value.cells], fun i hi => ?_⟩; obtain rfl : i = 0 := by simpa using hi
                    exact .rp g h hc hr
  | fn hl h => simp [AVal.flat] at hf; subst hf; refine ⟨by simp [Value.cells], fun i hi => ?_⟩; obtain rfl : i = 0 := by simpa using hi
               exact .fn hl h
  | mp h => simp [AVal.flat] at hf; subst hf; refine ⟨by simp [Value.cells], fun i hi => ?_⟩; obtain rfl : i = 0 := by simpa using hi
            exact .mp h
  | it h => simp [AVal.flat] at hf; subst hf; refine ⟨by simp [Value.cells], fun i hi => ?_⟩; obtain rfl : i = 0 := by simpa using hi
            exact .it h
theorem getD_some {l : List Value} {i : Nat} (h : i < l.length) : l[i]? = some (l.getD i undef) := by simp [List.getD, h]
/-- A new box out of cells that are said by abstract ones. -/
theorem RelH.newBox {c : Ctx} {H : List ABox} {w : World} (h : RelH c H w) (cells : Array Value) (T : TypeId) (vs : List AVal)
    (hl : cells.toList.length = vs.length) (hr : ∀ i, i < vs.length → RelV c (vs.getD i .junk) (cells.toList.getD i undef)) :
    ∃ c', Ext c c' ∧ c'.loc H.length = some ⟨w.heap.size, 0, 0⟩ ∧ RelH c' (H ++ [.box false vs]) (w.alloc (.cells cells T)) := by
  have he := Ctx.bind_ext (l := ⟨w.heap.size, 0, 0⟩) (h.dom H.length (Nat.le_refl _))
  refine ⟨_, he, Ctx.bind_same _ _ _, h.alloc cells T 0 _ ⟨cells, T, World.heap_alloc_new w _, ?_, fun j hj => ?_⟩⟩
  · show c.sealed w.heap.size = _
    cases hs : c.sealed w.heap.size with
    | none => rfl
    | some o => exact absurd (Array.getElem?_eq_some_iff.1 (h.sealed _ _ hs)).1 (by omega)
  · refine ⟨cells.toList.getD j undef, ?_, (hr j hj).ext he⟩
    rw [Nat.zero_add, ← Array.getElem?_toList]
    exact getD_some (by omega)
/-- A new row. -/
theorem RelH.newRow {c : Ctx} {H : List ABox} {w : World} (h : RelH c H w) (cells : Array Value) (T : TypeId) (e : ETy) (xs : List e.T) (cap : Nat)
    (hc : cap * e.sz ≤ cells.size) (hx : xs.length ≤ cap)
    (hr : ∀ i j, i < xs.length → j < e.sz → RelV c ((e.enc (xs.getD i e.d)).getD j .junk) (cells.toList.getD (i * e.sz + j) undef)) :
    ∃ c', Ext c c' ∧ c'.loc H.length = some ⟨w.heap.size, 0, cap⟩ ∧ RelH c' (H ++ [.row false e xs]) (w.alloc (.cells cells T)) := by
  have he := Ctx.bind_ext (l := ⟨w.heap.size, 0, cap⟩) (h.dom H.length (Nat.le_refl _))
  refine ⟨_, he, Ctx.bind_same _ _ _, h.alloc cells T cap _ ⟨cells, T, World.heap_alloc_new w _, ?_, by simpa using hc, hx, fun i j hi hj => ?_⟩⟩
  · show c.sealed w.heap.size = _
    cases hs : c.sealed w.heap.size with
    | none => rfl
    | some o => exact absurd (Array.getElem?_eq_some_iff.1 (h.sealed _ _ hs)).1 (by omega)
  · refine ⟨cells.toList.getD (i * e.sz + j) undef, ?_, (hr i j hi hj).ext he⟩
    rw [Nat.zero_add, ← Array.getElem?_toList]
    have h1 : i * e.sz + e.sz ≤ cap * e.sz := by rw [← Nat.succ_mul]; exact Nat.mul_le_mul_right _ (by omega)
    exact getD_some (by rw [Array.length_toList]; omega)
/-- The number of a box passes to a new one: the block's cells are written, the old box is forgotten. -/
theorem RelH.rebind {c : Ctx} {H : List ABox} {w : World} (h : RelH c H w) {k : Nat} {l l' : Loc} {X Y : ABox} (hk : H[k]? = some X) (hX : X.live = true) (hl : c.loc k = some l)
    (hs : c.sealed l.blk = none) (hb : l'.blk = l.blk) (cells : Array Value) (hY : RelB c (w.setRow l.blk cells) l' Y) :
    ∃ c', Ext c c' ∧ c'.sealed = c.sealed ∧ c'.loc H.length = some l' ∧ RelH c' (H.set k .dead ++ [Y]) (w.setRow l.blk cells) := by
  have hnone := h.dom H.length (Nat.le_refl _)
  have he := Ctx.bind_ext (l := l') hnone
  have hklt : k < H.length := (List.getElem?_eq_some_iff.1 hk).1
  have hlen : (H.set k .dead).length = H.length := by simp
  have hkof : ∀ (i : Nat) (Z : ABox), (H.set k .dead ++ [Y])[i]? = some Z → Z.live = true → (i < H.length ∧ i ≠ k ∧ H[i]? = some Z) ∨ (i = H.length ∧ Z = Y) := fun i Z hi hZ => by
    rcases Nat.lt_or_ge i H.length with h1 | h1
    · rw [List.getElem?_append_left (by omega), List.getElem?_set] at hi
      by_cases e : k = i
      · subst e; simp [hklt] at hi; subst hi; cases hZ
      · rw [if_neg e] at hi; exact .inl ⟨h1, fun e' => e e'.symm, hi⟩
    · rw [List.getElem?_append_right (by omega), hlen] at hi
      have : i - H.length < 1 := by
        have := (List.getElem?_eq_some_iff.1 hi).1; simpa using this
      have e : i = H.length := by omega
      subst e
      simp at hi
      exact .inr ⟨rfl, hi.symm⟩
  have hloc : ∀ (i : Nat) (m : Loc), i < H.length → (c.bind H.length l').loc i = some m → c.loc i = some m := fun i m hi hm => by
    have : (if i = H.length then some l' else c.loc i) = some m := hm
    rwa [if_neg (by omega)] at this
  refine ⟨c.bind H.length l', he, rfl, Ctx.bind_same _ _ _, h.os, h.tape, h.output, fun b o hb => ?_, fun i hi => ?_, fun i Z hi hZ => ?_, ?_⟩
  · have hb' : c.sealed b = some o := hb
    have hne : b ≠ l.blk := fun e => by subst e; rw [hs] at hb'; cases hb'
    rw [setRow_other w _ _ _ hne]; exact h.sealed b o hb'
  · show (if i = H.length then some l' else c.loc i) = none
    simp at hi
    rw [if_neg (by omega)]
    exact h.dom i (by omega)
  · rcases hkof i Z hi hZ with ⟨h1, h2, h3⟩ | ⟨rfl, rfl⟩
    · obtain ⟨m, hm, hB⟩ := h.box i Z h3 hZ
      have hne : m.blk ≠ l.blk := fun hb' => h2 (h.inj i k m l Z X h3 hZ hk hX hm hl hb')
      exact ⟨m, he.loc i m hm, hB.carry he (fun _ => setRow_other w _ _ _ hne) (fun _ => rfl)⟩
    · refine ⟨l', Ctx.bind_same _ _ _, hY.carry he (fun _ => rfl) (fun _ => rfl)⟩
  · intro i i' m m' Z Z' hi hZ hi' hZ' hm hm' hbb
    rcases hkof i Z hi hZ with ⟨h1, h2, h3⟩ | ⟨rfl, rfl⟩ <;> rcases hkof i' Z' hi' hZ' with ⟨h1', h2', h3'⟩ | ⟨rfl, rfl⟩
    · exact h.inj i i' m m' Z Z' h3 hZ h3' hZ' (hloc i m h1 hm) (hloc i' m' h1' hm') hbb
    · rw [Ctx.bind_same] at hm'
      cases hm'
      exact absurd (h.inj i k m l Z X h3 hZ hk hX (hloc i m h1 hm) hl (hbb.trans hb)) h2
    · rw [Ctx.bind_same] at hm
      cases hm
      exact absurd (h.inj i' k m' l Z' X h3' hZ' hk hX (hloc i' m' h1' hm') hl (hbb.symm.trans hb)) h2'
    · rfl
/-! ### alloc, box -/
def vAlloc (E : Env) (T : TypeId) (st : St) (k : AVal → List ABox → List ABox → Prop) : Prop :=
  match E.zero T with
  | some zs => k (.ptr 1 st.next 0 0) st.base (st.loc ++ [.box false (zs.map .v)])
  | none => False
def vBox (st : St) (x : AVal) (k : AVal → List ABox → List ABox → Prop) : Prop :=
  match x.flat with
  | some vs => k (.ptr 1 st.next 0 0) st.base (st.loc ++ [.box false vs])
  | none => False
theorem vAlloc_ok (hE : EnvOk P E) {T : TypeId} {st : St} {k : AVal → List ABox → List ABox → Prop} (hk : vAlloc E T st k) {n : Nat} {c : Ctx} {a : Act} {w : World} (hst : RelSt n c st a w) :
    ∃ z w' c' r b l, (Instr.alloc T true (.tuple #[])).run P w = .ok z w' ∧ Ext c c' ∧ RelV c' r z ∧ RelH c' (b ++ l) w' ∧ b.length = n ∧ k r b l := by
  unfold vAlloc at hk
  split at hk
  · rename_i zs hT
    obtain ⟨i, z, h1, h2, h3⟩ := hE.zero _ _ hT
    obtain ⟨c', he, hl, hh⟩ := hst.heap.newBox z.cells T (zs.map .v) (by rw [h3]; simp) (fun j hj => by
      rw [h3, getD_map_v _ _ (by simpa using hj)]; exact .v _)
    refine ⟨.pointer (some ⟨w.heap.size, 0, none⟩), _, c', _, st.base, _, ?_, he, ?_, by rw [← List.append_assoc]; exact hh, hst.hn, hk⟩
    · simp [Instr.alloc, zeroValue, typeInfo, h1, h2, newVar, newRow]
    · have := RelV.ptr (c := c') (sz := 1) (i := 0) (j := 0) hl
      simpa [St.next] using this
  · exact hk.elim
theorem vBox_ok {T : TypeId} {st : St} {X : AVal} {k : AVal → List ABox → List ABox → Prop} (hk : vBox st X k) {n : Nat} {c : Ctx} {a : Act} {w : World} (hst : RelSt n c st a w) {u : Value} (hx : RelV c X u) :
    ∃ z w' c' r b l, (Instr.box T u).run P w = .ok z w' ∧ Ext c c' ∧ RelV c' r z ∧ RelH c' (b ++ l) w' ∧ b.length = n ∧ k r b l := by
  unfold vBox at hk
  split at hk
  · rename_i vs hf
    obtain ⟨hl, hr⟩ := flat_ok hf hx
    obtain ⟨c', he, hlc, hh⟩ := hst.heap.newBox u.cells T vs hl hr
    refine ⟨.pointer (some ⟨w.heap.size, 0, none⟩), _, c', _, st.base, _, ?_, he, ?_, by rw [← List.append_assoc]; exact hh, hst.hn, hk⟩
    · simp [Instr.box, newVar, newRow]
    · have := RelV.ptr (c := c') (sz := 1) (i := 0) (j := 0) hlc
      simpa [St.next] using this
  · exact hk.elim
/-! ### store -/
theorem setRange_length {cs vs : List AVal} {j : Nat} (h : j + vs.length ≤ cs.length) : (setRange cs j vs).length = cs.length := by
  simp [setRange]; omega
theorem setRange_getD {cs vs : List AVal} {j i : Nat} (h : j + vs.length ≤ cs.length) :
    (setRange cs j vs).getD i .junk = if j ≤ i ∧ i < j + vs.length then vs.getD (i - j) .junk else cs.getD i .junk := by
  unfold setRange
  simp only [List.getD, List.append_assoc, List.getElem?_append, List.length_take, List.getElem?_take, List.getElem?_drop]
  have hm : min j cs.length = j := by omega
  rw [hm]
  by_cases h1 : i < j
  · have : ¬ (j ≤ i ∧ i < j + vs.length) := by omega
    simp [h1, this]
  · by_cases h2 : i < j + vs.length
    · have h3 : i - j < vs.length := by omega
      have h4 : j ≤ i ∧ i < j + vs.length := by omega
      simp [h1, h3, h4]
    · have h3 : ¬ i - j < vs.length := by omega
      have h4 : ¬ (j ≤ i ∧ i < j + vs.length) := by omega
      have h5 : j + vs.length + (i - j - vs.length) = i := by omega
      simp [h1, h3, h4, h5]
/-- The cells of the world behind a store. -/
theorem stored_get (cells : Array Value) (o : Nat) (vs : List Value) (h : o + vs.length ≤ cells.size) (i : Nat) :
    ((cells.toList.take o ++ vs ++ cells.toList.drop (o + vs.length)).toArray)[i]? = if o ≤ i ∧ i < o + vs.length then some (vs.getD (i - o) undef) else cells[i]? := by
  simp only [List.getElem?_toArray, List.append_assoc, List.getElem?_append, List.length_take, Array.length_toList, List.getElem?_take, List.getElem?_drop, Array.getElem?_toList]
  have hm : min o cells.size = o := by omega
  rw [hm]
  by_cases h1 : i < o
  · have : ¬ (o ≤ i ∧ i < o + vs.length) := by omega
    simp [h1, this]
  · by_cases h2 : i < o + vs.length
    · have h3 : i - o < vs.length := by omega
      have h4 : o ≤ i ∧ i < o + vs.length := by omega
      simp [h1, h3, h4]
    · have h3 : ¬ i - o < vs.length := by omega
      have h4 : ¬ (o ≤ i ∧ i < o + vs.length) := by omega
      have h5 : o + vs.length + (i - o - vs.length) = i := by omega
      simp [h1, h3, h4, h5]
theorem run_storeVar (hE : EnvOk P E) {T : TypeId} {agg : Bool} {sz : Nat} (hT : E.var T = some (agg, sz)) {w : World} {b o : Nat} {cells : Array Value} {T' : TypeId} (hb : w.heap[b]? = some (.cells cells T' (0, 0)))
    {u : Value} (hl : u.cells.toList.length = sz) (h1 : ∀ x ∈ u.cells.toList, x.oneCell' = true) (hfit : o + sz ≤ cells.size) :
    (storeVar T ⟨b, o, none⟩ u).run P w = .ok () (w.setRow b (cells.toList.take o ++ u.cells.toList ++ cells.toList.drop (o + u.cells.toList.length)).toArray) := by
  obtain ⟨d, i, t1, t2, t3, t4⟩ := hE.var _ _ _ hT
  have hsz : u.cells.size = sz := by simpa using hl
  have := run_storeCells_at P b o T' u.cells.toList 0 cells w hb (by rw [hl]; exact hfit) h1
  simp only [Nat.add_zero] at this
  simp only [storeVar, Sem.run_bind, run_sizeOf t3, Result.andThen_ok, t4, hsz, ne_eq, not_true_eq_false, if_false]
  exact this
theorem St.setBox_ok {st : St} {id : Nat} {X : ABox} {K : List ABox → List ABox → Prop} (h : st.setBox id X K) {n : Nat} (hn : st.base.length = n) :
    ∃ b l, b ++ l = (st.base ++ st.loc).set id X ∧ b.length = n ∧ K b l := by
  unfold St.setBox at h
  split at h
  · rename_i hlt
    exact ⟨_, _, by rw [List.set_append_left _ _ hlt], by simpa using hn, h⟩
  · rename_i hge
    exact ⟨_, _, by rw [List.set_append_right _ _ (by omega)], hn, h⟩
theorem vStore_ok (hE : EnvOk P E) {T : TypeId} {st : St} {X Y : AVal} {k : List ABox → List ABox → Prop} (hk : vStore E T st X Y k) {n : Nat} {c : Ctx} {a : Act} {w : World} (hst : RelSt n c st a w)
    {u v : Value} (hx : RelV c X u) (hy : RelV c Y v) :
    ∃ w' b l, (Instr.storeAt T u v).run P w = .ok () w' ∧ RelH c (b ++ l) w' ∧ b.length = n ∧ k b l := by
  unfold vStore at hk
  split at hk
  · rename_i agg sz esz id i j vs hT hf
    obtain ⟨hvl, hpos, hcell, hk⟩ := hk
    obtain ⟨hfl, hfr⟩ := flat_ok hf hy
    have h1 : ∀ x ∈ v.cells.toList, x.oneCell' = true := fun x hx => by
      obtain ⟨q, hq, rfl⟩ := List.mem_iff_getElem.1 hx
      have hq' : q < vs.length := by omega
      have := hfr q hq'
      have e0 : v.cells.toList.getD q undef = v.cells.toList[q] := by rw [List.getD, List.getElem?_eq_getElem hq]; rfl
      rw [e0] at this
      refine this.oneCell ?_
      have hall := List.all_eq_true.1 hcell (vs.getD q .junk) (by simp [List.getD, hq'])
      exact hall
    cases hx with
    | @ptr _ _ _ _ l hl =>
      have hsta : ∀ A : Addr, (Instr.storeAt T (.pointer (some A)) v).run P w = (storeVar T A v).run P w := fun A => by simp [Instr.storeAt, Instr.sureAddr]
      simp only [hsta]
      split at hk
      · rename_i cs hb
        obtain ⟨rfl, hfit, hk⟩ := hk
        obtain ⟨l', hl', cells, T', g1, g2, g3⟩ := hst.heap.box id _ (St.get_some hb rfl) rfl
        rw [hl] at hl'; cases hl'
        have hsize : l.off + cs.length ≤ cells.size := by
          rcases Nat.eq_zero_or_pos cs.length with h0 | h0
          · omega
          · obtain ⟨u, hu, _⟩ := g3 (cs.length - 1) (by omega)
            have := (Array.getElem?_eq_some_iff.1 hu).1
            omega
        have hrun := run_storeVar hE hT (o := l.off + 0 * esz + j) g1 (u := v) (by rw [hfl]; exact hvl) h1 (by omega)
        obtain ⟨b, l2, hbl, hn, hK⟩ := St.setBox_ok hk hst.hn
        refine ⟨_, b, l2, hrun, ?_, hn, hK⟩
        rw [hbl]
        refine hst.heap.write (St.get_some hb rfl) rfl hl g2 _ ⟨_, T', setRow_heap w _ _ _ _ _ g1, g2, fun m hm => ?_⟩
        rw [setRange_length (by omega)] at hm
        rw [stored_get _ _ _ (by rw [hfl]; omega), setRange_getD (by omega), hfl]
        by_cases hin : j ≤ m ∧ m < j + vs.length
        · rw [if_pos (by omega), if_pos hin]
          refine ⟨_, rfl, ?_⟩
          have e : l.off + m - (l.off + 0 * esz + j) = m - j := by omega
          rw [e]; exact hfr (m - j) (by omega)
        · rw [if_neg (by omega), if_neg hin]
          exact g3 m hm
      · rename_i e xs hb
        obtain ⟨rfl, hi, hfit, hk⟩ := hk
        split at hk
        · rename_i y hdec
          have henc := ETy.enc_dec _ _ _ hdec
          obtain ⟨l', hl', cells, T', g1, g2, g3, g4, g5⟩ := hst.heap.box id _ (St.get_some hb rfl) rfl
          rw [hl] at hl'; cases hl'
          have hsize : l.off + i * e.sz + e.sz ≤ cells.size := by
            have : i * e.sz + e.sz ≤ l.cap * e.sz := by rw [← Nat.succ_mul]; exact Nat.mul_le_mul_right _ (by omega)
            omega
          have hrun := run_storeVar hE hT (o := l.off + i * e.sz + j) g1 (u := v) (by rw [hfl]; exact hvl) h1 (by omega)
          obtain ⟨b, l2, hbl, hn, hK⟩ := St.setBox_ok hk hst.hn
          refine ⟨_, b, l2, hrun, ?_, hn, hK⟩
          rw [hbl]
          refine hst.heap.write (St.get_some hb rfl) rfl hl g2 _ ⟨_, T', setRow_heap w _ _ _ _ _ g1, g2, ?_, by simpa using g4, fun p q hp hq => ?_⟩
          · have : (cells.toList.take (l.off + i * e.sz + j) ++ v.cells.toList ++ cells.toList.drop (l.off + i * e.sz + j + v.cells.toList.length)).toArray.size = cells.size := by
              simp only [List.size_toArray, List.length_append, List.length_take, List.length_drop, Array.length_toList] at hfl ⊢
              omega
            rw [this]; exact g3
          · have hp' : p < xs.length := by simpa using hp
            rw [stored_get _ _ _ (by rw [hfl]; omega), hfl]
            have hgd : (xs.set i y).getD p e.d = if i = p then y else xs.getD p e.d := by
              simp only [List.getD, List.getElem?_set]
              by_cases hip : i = p
              · subst hip; simp [hp']
              · simp [hip]
            rw [hgd]
            by_cases hip : i = p
            · subst hip
              rw [if_pos rfl, henc, setRange_getD (by rw [ETy.enc_length]; omega)]
              by_cases hin : j ≤ q ∧ q < j + vs.length
              · rw [if_pos (by omega), if_pos hin]
                refine ⟨_, rfl, ?_⟩
                have e1 : l.off + i * e.sz + q - (l.off + i * e.sz + j) = q - j := by omega
                rw [e1]; exact hfr (q - j) (by omega)
              · rw [if_neg (by omega), if_neg hin]
                exact g5 i q hi hq
            · rw [if_neg hip, if_neg ?_]
              · exact g5 p q hp' hq
              · rcases Nat.lt_or_ge p i with h2 | h2
                · have : p * e.sz + e.sz ≤ i * e.sz := by rw [← Nat.succ_mul]; exact Nat.mul_le_mul_right _ h2
                  omega
                · have : i * e.sz + e.sz ≤ p * e.sz := by rw [← Nat.succ_mul]; exact Nat.mul_le_mul_right _ (by omega)
                  omega
        · exact hk.elim
      · exact hk.elim
  · exact hk.elim
end Go.Eng
end
section
set_option linter.unusedSimpArgs false
set_option linter.unusedVariables false
namespace Go.Eng
variable {P : Program} {E : Env}
/-- Cells as abstract ones say. -/
def RelCs (c : Ctx) (cs : List AVal) (vs : List Value) : Prop := vs.length = cs.length ∧ ∀ i, i < cs.length → RelV c (cs.getD i .junk) (vs.getD i undef)
theorem RelCs.ofVals (c : Ctx) (l : List Value) : RelCs c (l.map .v) l := ⟨by simp, fun i hi => by rw [getD_map_v _ _ (by simpa using hi)]; exact .v _⟩
/-- 'fill', on abstract cells. -/
def fillA (place : Nat → Option (Nat × Nat)) (cs : List AVal) : List (Nat × AVal) → Option (List AVal)
  | [] => some cs
  | (i, x) :: rest =>
    match place i, x.flat with
    | some (off, size), some vs => if vs.length = size ∧ off + size ≤ cs.length then fillA place (setRange cs off vs) rest else none
    | _, _ => none
theorem foldl_set (off : Nat) : ∀ (l : List Value) (k : Nat) (cells : Array Value), off + k + l.length ≤ cells.size →
    ((l.zipIdx k).foldl (fun cs (p : Value × Nat) => cs.setIfInBounds (off + p.2) p.1) cells).toList = cells.toList.take (off + k) ++ l ++ cells.toList.drop (off + k + l.length)
  | [], k, cells, _ => by simp
  | v :: l, k, cells, h => by
    simp only [List.zipIdx_cons, List.foldl_cons]
    rw [foldl_set off l (k + 1) _ (by simp at h ⊢; omega)]
    have e := list_seg_step cells.toList (off + k) v l (by simp at h ⊢; omega)
    simp only [Array.toList_setIfInBounds]
    rw [← Nat.add_assoc]
    simpa using e
theorem fill_ok {c : Ctx} (place : Nat → Option (Nat × Nat)) : ∀ (parts : List (Nat × AVal)) (ps : List (Nat × Value)) (cs cs' : List AVal) (cells : Array Value),
    RelCs c cs cells.toList → parts.length = ps.length → (∀ j, j < parts.length → (parts.getD j (0, .junk)).1 = (ps.getD j (0, undef)).1 ∧ RelV c (parts.getD j (0, .junk)).2 (ps.getD j (0, undef)).2) →
    fillA place cs parts = some cs' → ∃ cells', Instr.fill place cells ps = some cells' ∧ RelCs c cs' cells'.toList
  | [], [], cs, cs', cells, h, _, _, hf => by simp [fillA] at hf; subst hf; exact ⟨cells, rfl, h⟩
  | [], _ :: _, _, _, _, _, h, _, _ => by simp at h
  | _ :: _, [], _, _, _, _, h, _, _ => by simp at h
  | (i, x) :: parts, (i', u) :: ps, cs, cs', cells, h, hl, hp, hf => by
    have h0 := hp 0 (by simp)
    simp at h0
    obtain ⟨rfl, hx⟩ := h0
    simp only [fillA] at hf
    split at hf
    · rename_i off size vs hpl hfl
      split at hf
      · rename_i hc
        obtain ⟨rfl, hfit⟩ := hc
        obtain ⟨g1, g2⟩ := flat_ok hfl hx
        have hcl := h.1
        have hu : u.cells.size = vs.length := by simpa using g1
        have hcond : ¬ (u.cells.size ≠ vs.length || off + u.cells.size > cells.size) = true := by
          simp [hu]
          have : cells.size = cs.length := by simpa using hcl
          omega
        have hfold := foldl_set off u.cells.toList 0 cells (by
          have : cells.size = cs.length := by simpa using hcl
          simp [hu]; omega)
        simp only [Nat.add_zero] at hfold
        have hz : u.cells.zipIdx.foldl (fun cs (p : Value × Nat) => cs.setIfInBounds (off + p.2) p.1) cells = (u.cells.toList.zipIdx.foldl (fun cs (p : Value × Nat) => cs.setIfInBounds (off + p.2) p.1) cells) := by
          rw [← Array.foldl_toList]; simp
        have hrel : RelCs c (setRange cs off vs) (u.cells.toList.zipIdx.foldl (fun cs (p : Value × Nat) => cs.setIfInBounds (off + p.2) p.1) cells).toList := by
          rw [hfold]
          refine ⟨by rw [setRange_length (by omega)]; simp only [List.length_append, List.length_take, List.length_drop]; omega, fun m hm => ?_⟩
          rw [setRange_length (by omega)] at hm
          have hs := stored_get cells off u.cells.toList (by rw [g1]; have : cells.size = cs.length := by simpa using hcl
                                                             omega) m
          rw [setRange_getD (by omega)]
          have hget : (cells.toList.take off ++ u.cells.toList ++ cells.toList.drop (off + u.cells.toList.length)).getD m undef =
              ((cells.toList.take off ++ u.cells.toList ++ cells.toList.drop (off + u.cells.toList.length)).toArray[m]?).getD undef := by
            rw [List.getElem?_toArray]; rfl
          rw [hget, hs, g1]
          by_cases hin : off ≤ m ∧ m < off + vs.length
          · rw [if_pos hin, if_pos hin]; exact g2 (m - off) (by omega)
          · rw [if_neg hin, if_neg hin]
            have := h.2 m hm
            rw [← Array.getElem?_toList]
            exact this
        obtain ⟨cells', hfill, hr⟩ := fill_ok place parts ps _ cs' _ hrel (by simpa using hl) (fun j hj => by
          have := hp (j + 1) (by simpa using hj)
          simpa using this) hf
        refine ⟨cells', ?_, hr⟩
        simp only [Instr.fill, hpl]
        rw [if_neg hcond]
        have e : (u.cells.zipIdx.foldl (fun cs (x : Value × Nat) => match x with | (c, j) => cs.setIfInBounds (off + j) c) cells) = u.cells.zipIdx.foldl (fun cs (p : Value × Nat) => cs.setIfInBounds (off + p.2) p.1) cells := rfl
        rw [e, hz]; exact hfill
      · cases hf
    · cases hf
def partsA (st : St) (ps : List (Nat × Operand)) : List (Nat × AVal) := ps.map fun p => (p.1, st.ev p.2)
def vBuild (E : Env) (T : TypeId) (parts : List (Nat × AVal)) (k : AVal → Prop) : Prop :=
  match E.bld T, E.zero T with
  | some pl, some zs =>
    match fillA (fun i => pl[i]?) (zs.map .v) parts with
    | some cs => k (.agg cs)
    | none => False
  | _, _ => False
theorem partsA_ok {n : Nat} {c : Ctx} {st : St} {a : Act} {w : World} (hst : RelSt n c st a w) (ps : Array (Nat × Operand)) :
    (partsA st ps.toList).length = (ps.map fun (i, x) => (i, a.eval x)).toList.length ∧ ∀ j, j < (partsA st ps.toList).length →
      ((partsA st ps.toList).getD j (0, .junk)).1 = ((ps.map fun (i, x) => (i, a.eval x)).toList.getD j (0, undef)).1 ∧
      RelV c ((partsA st ps.toList).getD j (0, .junk)).2 ((ps.map fun (i, x) => (i, a.eval x)).toList.getD j (0, undef)).2 := by
  refine ⟨by simp [partsA], fun j hj => ?_⟩
  have hj' : j < ps.size := by simpa [partsA] using hj
  simp [partsA, List.getD, hj']
  exact hst.ev _
theorem vBuild_ok (hE : EnvOk P E) {T : TypeId} {st : St} {ps : Array (Nat × Operand)} {k : AVal → Prop} (hk : vBuild E T (partsA st ps.toList) k) {n : Nat} {c : Ctx} {a : Act} {w : World} (hst : RelSt n c st a w) :
    ∃ z r, (Instr.build T (ps.map fun (i, x) => (i, a.eval x))).run P w = .ok z w ∧ RelV c r z ∧ k r := by
  unfold vBuild at hk
  split at hk
  · rename_i pl zs h1 h2
    split at hk
    · rename_i cs hf
      obtain ⟨i, z, b1, b2, b4⟩ := hE.bld _ _ h1 (ps.map fun (i, x) => (i, a.eval x)) w
      obtain ⟨i', z', z1, z2, z3⟩ := hE.zero _ _ h2
      rw [b1] at z1; cases z1; rw [b2] at z2; cases z2
      obtain ⟨hl, hp⟩ := partsA_ok hst ps
      obtain ⟨cells', hfill, hr⟩ := fill_ok _ _ _ _ _ z.cells (by rw [z3]; exact RelCs.ofVals c zs) hl hp hf
      refine ⟨.agg cells', _, ?_, ?_, hk⟩
      · exact b4 _ hfill
      · have := RelV.agg (c := c) (vs := cells'.toList) hr.1.symm hr.2
        simpa using this
    · exact hk.elim
  · exact hk.elim
/-! ### A slice's literal -/
def decAll (e : ETy) : List (Nat × AVal) → Nat → Option (List e.T)
  | [], _ => some []
  | (i, x) :: r, m =>
    if i = m then
      match x.flat with
      | some vs => match e.dec vs, decAll e r (m + 1) with
        | some y, some ys => some (y :: ys)
        | _, _ => none
      | none => none
    else none
/-- A list of one's own that becomes an element: it is sealed. -/
def vSealSl (len : Nat) (st : St) (e : ETy) (parts : List (Nat × AVal)) (k : AVal → List ABox → List ABox → Prop) : Prop :=
  match e, parts with
  | .sli kk, [(0, .sl 1 id 0 m)] =>
    match st.get id with
    | .row false (.int kk') xs => (kk = kk' ∧ m = xs.length ∧ len = 1) ∧ st.setBox id .dead (fun b l => k (.sl 1 st.next 0 1) b (l ++ [.row false (.sli kk) [xs]]))
    | _ => False
  | .slb, [(0, .sl 1 id 0 m)] =>
    match st.get id with
    | .row false .bool xs => (m = xs.length ∧ len = 1) ∧ st.setBox id .dead (fun b l => k (.sl 1 st.next 0 1) b (l ++ [.row false .slb [xs]]))
    | _ => False
  | _, _ => False
def vBuildSl (E : Env) (T : TypeId) (len : Nat) (st : St) (parts : List (Nat × AVal)) (k : AVal → List ABox → List ABox → Prop) : Prop :=
  match E.sl T with
  | some e =>
    match decAll e parts 0 with
    | some xs => (len = xs.length ∧ len ≤ 1000000) ∧ k (.sl e.sz st.next 0 len) st.base (st.loc ++ [.row false e xs])
    | none => vSealSl len st e parts k
  | none => False
/-- The abstract cells that 'fill' leaves are the elements', where all are given in order. -/
theorem fillA_all (e : ETy) : ∀ (parts : List (Nat × AVal)) (m : Nat) (xs : List e.T) (cs : List AVal), decAll e parts m = some xs → cs.length = (m + xs.length) * e.sz →
    fillA (fun i => some (i * e.sz, e.sz)) cs parts = some (cs.take (m * e.sz) ++ xs.flatMap e.enc)
  | [], m, xs, cs, h, hl => by
    simp [decAll] at h; subst h
    simp at hl
    simp only [fillA]
    rw [List.take_of_length_le (by omega)]; simp
  | (i, x) :: r, m, xs, cs, h, hl => by
    simp only [decAll] at h
    split at h
    · rename_i him; subst him
      split at h
      · rename_i vs hf
        split at h
        · rename_i y ys hy hys
          cases h
          have henc := ETy.enc_dec _ _ _ hy
          have hvl : vs.length = e.sz := by rw [← henc, ETy.enc_length]
          have hfit : i * e.sz + e.sz ≤ cs.length := by
            rw [hl, ← Nat.succ_mul]; apply Nat.mul_le_mul_right; simp
          simp only [fillA, hf]
          rw [if_pos ⟨hvl, hfit⟩, fillA_all e r (i + 1) ys _ hys (by rw [setRange_length (by omega), hl]; congr 1; simp; omega)]
          congr 1
          rw [List.flatMap_cons, henc, Nat.succ_mul]
          have : (setRange cs (i * e.sz) vs).take (i * e.sz + e.sz) = cs.take (i * e.sz) ++ vs := by
            unfold setRange
            exact List.take_left' (by simp; omega)
          rw [this, List.append_assoc]
        · cases h
      · cases h
    · cases h
theorem getD_flatMap (e : ETy) : ∀ (xs : List e.T) (i j : Nat), i < xs.length → j < e.sz → (xs.flatMap e.enc).getD (i * e.sz + j) .junk = (e.enc (xs.getD i e.d)).getD j .junk
  | [], i, j, h, _ => by simp at h
  | x :: xs, 0, j, _, hj => by
    rw [List.flatMap_cons, Nat.zero_mul, Nat.zero_add]
    simp only [List.getD, List.getElem?_append, ETy.enc_length, hj, if_true]
    rfl
  | x :: xs, i + 1, j, h, hj => by
    have ih := getD_flatMap e xs i j (by simpa using h) hj
    rw [List.flatMap_cons]
    have e1 : (e.enc x ++ xs.flatMap e.enc).getD ((i + 1) * e.sz + j) .junk = (xs.flatMap e.enc).getD (i * e.sz + j) .junk := by
      have h1 : ¬ ((i + 1) * e.sz + j < e.sz) := by rw [Nat.succ_mul]; omega
      have h2 : (i + 1) * e.sz + j - e.sz = i * e.sz + j := by rw [Nat.succ_mul]; omega
      simp only [List.getD, List.getElem?_append, ETy.enc_length, h1, if_false, h2]
    rw [e1, ih]
    rfl
theorem length_flatMap (e : ETy) (xs : List e.T) : (xs.flatMap e.enc).length = xs.length * e.sz := by
  induction xs with
  | nil => simp
  | cons x xs ih => rw [List.flatMap_cons, List.length_append, ETy.enc_length, ih, List.length_cons, Nat.succ_mul]; omega
/-- A new list of elements. -/
theorem vBuildSl_core (hE : EnvOk P E) {T : TypeId} {e : ETy} (hT : E.sl T = some e) {pa : List (Nat × AVal)} {ps : Array (Nat × Operand)} {a : Act} {c : Ctx} {H : List ABox} {w : World} (hh : RelH c H w)
    (hl : pa.length = (ps.map fun (i, x) => (i, a.eval x)).toList.length)
    (hp : ∀ j, j < pa.length → (pa.getD j (0, .junk)).1 = ((ps.map fun (i, x) => (i, a.eval x)).toList.getD j (0, undef)).1 ∧ RelV c (pa.getD j (0, .junk)).2 ((ps.map fun (i, x) => (i, a.eval x)).toList.getD j (0, undef)).2)
    {xs : List e.T} (hd : decAll e pa 0 = some xs) (hsm : xs.length ≤ 1000000) :
    ∃ z w' c', (Instr.buildSlice T xs.length (ps.map fun (i, x) => (i, a.eval x))).run P w = .ok z w' ∧ Ext c c' ∧ RelV c' (.sl e.sz H.length 0 xs.length) z ∧ RelH c' (H ++ [.row false e xs]) w' := by
  obtain ⟨et, i, z, t1, t2, t3, t4, t5, t6⟩ := hE.sl _ _ hT
  have hszle : e.sz ≤ 3 := by cases e <;> simp [ETy.sz]
  -- the zero cells
  have hz : ∃ zero : Array Value, (xs.length * e.sz = 0 → zero = #[]) ∧ (¬ xs.length * e.sz = 0 → zero = z.cells) := by
    by_cases h0 : xs.length * e.sz = 0
    · exact ⟨#[], fun _ => rfl, fun h => absurd h0 h⟩
    · exact ⟨z.cells, fun h => absurd h h0, fun _ => rfl⟩
  obtain ⟨zero, hz0, hz1⟩ := hz
  let cells0 : Array Value := (Array.range (xs.length * e.sz)).map (zero[· % zero.size]!)
  have hc0 : RelCs c (cells0.toList.map .v) cells0.toList := RelCs.ofVals c _
  have hfA := fillA_all e _ 0 xs (cells0.toList.map .v) hd (by simp [cells0])
  simp only [Nat.zero_mul, List.take_zero, List.nil_append] at hfA
  obtain ⟨cells', hfill, hr⟩ := fill_ok _ _ _ _ _ cells0 hc0 hl hp hfA
  have hrl : cells'.size = xs.length * e.sz := by
    have := hr.1; rw [length_flatMap] at this; simpa using this
  obtain ⟨c', he, hloc, hh2⟩ := hh.newRow cells' et e xs xs.length (by omega) (Nat.le_refl _) (fun p q hp' hq => by
    have hlt : p * e.sz + q < (xs.flatMap e.enc).length := by
      rw [length_flatMap]
      have : p * e.sz + e.sz ≤ xs.length * e.sz := by rw [← Nat.succ_mul]; exact Nat.mul_le_mul_right _ hp'
      omega
    have := hr.2 _ hlt
    rwa [getD_flatMap e xs p q hp' hq] at this)
  refine ⟨.slice (some ⟨w.heap.size, 0, none⟩) xs.length xs.length, _, c', ?_, he, ?_, hh2⟩
  · have hnl : ¬ (xs.length * i.size > 2 ^ 24) := by
      rw [t3]
      have : xs.length * e.sz ≤ 1000000 * 3 := Nat.mul_le_mul hsm hszle
      omega
    have hnl' : ¬ (16777216 < xs.length * e.sz) := by
      have : xs.length * e.sz ≤ 1000000 * 3 := Nat.mul_le_mul hsm hszle
      omega
    simp only [Instr.buildSlice, Sem.run_bind, run_underlying t1, Result.andThen_ok, run_sizeOf t2, t3]
    rw [if_neg (by simpa using hnl')]
    have hfill' : Instr.fill (fun i => some (i * e.sz, e.sz)) (Array.map (fun x => zero[x % zero.size]!) (Array.range (xs.length * e.sz))) (Array.map (fun x => (x.fst, a.eval x.snd)) ps).toList = some cells' := hfill
    by_cases h0 : xs.length * e.sz = 0
    · rw [if_pos h0]
      have := hz0 h0
      rw [this] at hfill'
      simp only [Sem.run_bind, Sem.run_pure, Result.andThen_ok, hfill']
      rfl
    · rw [if_neg h0]
      have := hz1 h0
      rw [this] at hfill'
      have hzv : (zeroValue et).run P w = .ok z w := by simp [zeroValue, typeInfo, t2, t4]
      simp only [Sem.run_bind, Sem.run_pure, Result.andThen_ok, hzv, hfill']
      rfl
  · have := RelV.sl (c := c') (sz := e.sz) (off := 0) (n := xs.length) (b := w.heap.size) (o := 0) hloc (by simp) (fun _ => ⟨rfl, by simp⟩)
    simpa using this
/-- A list of one's own, sealed where it stands. -/
theorem RelH.sealRow {c : Ctx} {H : List ABox} {w : World} (hh : RelH c H w) {id : Nat} {e : ETy} {xs : List e.T} (hg : H[id]? = some (.row false e xs)) :
    ∃ c', Ext c c' ∧ RelH c' (H.set id .dead) w ∧ ∀ v, RelV c (.sl e.sz id 0 xs.length) v → RelV c' (.rd e xs) v := by
  obtain ⟨l, hl, cells, T, h1, h2, h3, h4, h5⟩ := hh.box _ _ hg rfl
  have h2' : c.sealed l.blk = none := h2
  let c' : Ctx := { c with sealed := fun q => if q = l.blk then some (.cells cells T (0, 0)) else c.sealed q }
  have he : Ext c c' := ⟨⟨rfl, rfl, rfl, fun q o hq => by
    show (if q = l.blk then _ else c.sealed q) = some o
    by_cases eq : q = l.blk
    · rw [eq, h2'] at hq; cases hq
    · rw [if_neg eq]; exact hq⟩, fun _ _ h => h⟩
  have hs : c'.sealed l.blk = some (.cells cells T (0, 0)) := if_pos rfl
  have key : ∀ (q : Nat) (X : ABox), (H.set id .dead)[q]? = some X → X.live = true → q ≠ id ∧ H[q]? = some X := fun q X hq hX => by
    rw [List.getElem?_set] at hq
    split at hq
    · split at hq
      · cases hq; cases hX
      · cases hq
    · rename_i h; exact ⟨fun e => h e.symm, hq⟩
  have hother : ∀ (q : Nat) (X : ABox) (l' : Loc), H[q]? = some X → X.live = true → q ≠ id → c.loc q = some l' → c'.sealed l'.blk = c.sealed l'.blk := fun q X l' hq hX' hne hl' => by
    refine if_neg fun eq => hne ?_
    exact hh.inj q id l' l X _ hq hX' hg rfl hl' hl eq
  refine ⟨c', he, ⟨hh.os, hh.tape, hh.output, fun q o hq => ?_, fun q hq => ?_, fun q X' hq hX' => ?_, ?_⟩, fun v hv => ?_⟩
  · by_cases eq : q = l.blk
    · rw [eq, hs] at hq; cases hq; rw [eq]; exact h1
    · exact hh.sealed q o (by have := hq; rwa [show c'.sealed q = c.sealed q from if_neg eq] at this)
  · exact hh.dom q (by simpa using hq)
  · obtain ⟨g1, g2⟩ := key q X' hq hX'
    obtain ⟨l', hl', hB⟩ := hh.box q X' g2 hX'
    exact ⟨l', hl', hB.carry he (fun _ => rfl) (fun _ => hother q X' l' g2 hX' g1 hl')⟩
  · intro q q' l1 l2 X1 X2 hq hX1 hq' hX2 hl1 hl2 hb
    obtain ⟨_, g1⟩ := key q X1 hq hX1
    obtain ⟨_, g2⟩ := key q' X2 hq' hX2
    exact hh.inj q q' l1 l2 X1 X2 g1 hX1 g2 hX2 hl1 hl2 hb
  · cases hv with
    | @sl _ _ _ _ b o l2 hl2 hn ha =>
      rw [hl] at hl2; cases hl2
      refine .rd (fun i j => cells.getD (l.off + i * e.sz + j) undef) rfl (by omega) (fun hp => ?_) (fun i j hi hj => ?_)
      · obtain ⟨rfl, rfl⟩ := ha (by omega)
        refine ⟨l.blk, l.off, cells, T, (0, 0), by simp, hs, fun i j hi hj => ?_⟩
        obtain ⟨u, hu, _⟩ := h5 i j (by omega) hj
        rw [hu]
        simp only [Array.getD_eq_getD_getElem?]
        rw [hu]; rfl
      · obtain ⟨u, hu, hr⟩ := h5 i j (by omega) hj
        have e3 : cells.getD (l.off + i * e.sz + j) undef = u := by
          simp only [Array.getD_eq_getD_getElem?]
          rw [hu]; rfl
        rw [e3]; exact hr.ext he
theorem vSealSl_ok (hE : EnvOk P E) {T : TypeId} {e e0 : ETy} (hT : E.sl T = some e) (h1 : e.sz = 1) (h0 : e0.sz = 1) {st : St} {ps : Array (Nat × Operand)} {id m : Nat} {k : AVal → List ABox → List ABox → Prop}
    (hps : partsA st ps.toList = [(0, .sl 1 id 0 m)]) {xs : List e0.T} (hb : st.get id = .row false e0 xs) (hm : m = xs.length) {x : e.T} (hx : e.enc x = [.rd e0 xs]) (hd : decAll e [(0, .rd e0 xs)] 0 = some [x])
    (hk : st.setBox id .dead (fun b l => k (.sl 1 st.next 0 1) b (l ++ [.row false e [x]]))) {n : Nat} {c : Ctx} {a : Act} {w : World} (hst : RelSt n c st a w) :
    ∃ z w' c' r b l, (Instr.buildSlice T 1 (ps.map fun (i, x) => (i, a.eval x))).run P w = .ok z w' ∧ Ext c c' ∧ RelV c' r z ∧ RelH c' (b ++ l) w' ∧ b.length = n ∧ k r b l := by
  obtain ⟨b', l', hbl, hn', hK⟩ := St.setBox_ok hk hst.hn
  obtain ⟨c1, he1, hh1, hv1⟩ := hst.heap.sealRow (St.get_some hb rfl)
  obtain ⟨hl, hp⟩ := partsA_ok hst ps
  rw [hps] at hl hp
  have hp0 := hp 0 (by simp)
  subst hm
  obtain ⟨z, w', c', g1, g2, g3, g4⟩ := vBuildSl_core hE hT (pa := [(0, .rd e0 xs)]) (ps := ps) (a := a) hh1 hl (fun j hj => by
    have hj0 : j = 0 := by simpa using hj
    subst hj0
    refine ⟨hp0.1, hv1 _ ?_⟩
    rw [h0]; exact hp0.2) hd (by simp)
  refine ⟨z, w', c', _, b', _, g1, he1.trans g2, ?_, by rw [← List.append_assoc, hbl]; exact g4, hn', hK⟩
  rw [h1] at g3
  simpa [St.next] using g3
/-- A list built. -/
theorem vBuildSl_ok (hE : EnvOk P E) {T : TypeId} {len : Nat} {st : St} {ps : Array (Nat × Operand)} {k : AVal → List ABox → List ABox → Prop} (hk : vBuildSl E T len st (partsA st ps.toList) k)
    {n : Nat} {c : Ctx} {a : Act} {w : World} (hst : RelSt n c st a w) :
    ∃ z w' c' r b l, (Instr.buildSlice T len (ps.map fun (i, x) => (i, a.eval x))).run P w = .ok z w' ∧ Ext c c' ∧ RelV c' r z ∧ RelH c' (b ++ l) w' ∧ b.length = n ∧ k r b l := by
  unfold vBuildSl at hk
  split at hk
  · rename_i e hT
    split at hk
    · rename_i xs hd
      obtain ⟨⟨rfl, hsm⟩, hk⟩ := hk
      obtain ⟨hl, hp⟩ := partsA_ok hst ps
      obtain ⟨z, w', c', g1, g2, g3, g4⟩ := vBuildSl_core hE hT hst.heap hl hp hd hsm
      refine ⟨z, w', c', _, st.base, _, g1, g2, ?_, by rw [← List.append_assoc]; exact g4, hst.hn, hk⟩
      simpa [St.next] using g3
    · unfold vSealSl at hk
      split at hk
      · rename_i kk id m hps _ _
        split at hk
        · rename_i kk' xs hb
          obtain ⟨⟨rfl, hm, rfl⟩, hk⟩ := hk
          exact vSealSl_ok hE (e0 := .int kk) hT rfl rfl hps hb hm (x := xs) rfl (by simp [decAll, ETy.dec, AVal.flat]) hk hst
        · exact hk.elim
      · rename_i id m hps _ _
        split at hk
        · rename_i xs hb
          obtain ⟨⟨hm, rfl⟩, hk⟩ := hk
          exact vSealSl_ok hE (e0 := .bool) hT rfl rfl hps hb hm (x := xs) rfl (by simp [decAll, ETy.dec, AVal.flat]) hk hst
        · exact hk.elim
      · exact hk.elim
  · exact hk.elim
/-! ### make -/
def vMake (E : Env) (T : TypeId) (st : St) (x y : AVal) (k : AVal → List ABox → List ABox → Prop) : Prop :=
  match E.sl T, x, y with
  | some e, .v (.int _ m), .v (.int _ q) => (0 ≤ m ∧ m ≤ q ∧ q ≤ 1000000000) ∧ k (.sl e.sz st.next 0 m.toNat) st.base (st.loc ++ [.row false e (List.replicate m.toNat e.d)])
  | _, _, _ => False
theorem vMake_ok (hE : EnvOk P E) {T : TypeId} {st : St} {X Y : AVal} {k : AVal → List ABox → List ABox → Prop} (hk : vMake E T st X Y k) {n : Nat} {c : Ctx} {a : Act} {w : World} (hst : RelSt n c st a w)
    {u v : Value} (hx : RelV c X u) (hy : RelV c Y v) :
    ∃ z w' c' r b l, (Instr.makeSlice T u v).run P w = .ok z w' ∧ Ext c c' ∧ RelV c' r z ∧ RelH c' (b ++ l) w' ∧ b.length = n ∧ k r b l := by
  unfold vMake at hk
  split at hk
  · rename_i e k1 m k2 q hT
    obtain ⟨⟨h0, h1, h2⟩, hk⟩ := hk
    have e1 := hx.v_inv; subst e1
    have e2 := hy.v_inv; subst e2
    obtain ⟨et, i, z, t1, t2, t3, t4, t5, t6, t7⟩ := hE.sl _ _ hT
    have hrun := run_make (P := P) w T et i z t1 t2 t4 k1 k2 m q h0 h1 (by
      have : (i.bytes : Int) ≤ 64 := by omega
      calc (i.bytes : Int) * q ≤ 64 * q := Int.mul_le_mul_of_nonneg_right this (by omega)
        _ ≤ 281474976710656 := by omega) (by omega)
    obtain ⟨c', he, hloc, hh⟩ := hst.heap.newRow (madeCells z.cells (q.toNat * i.size)) et e (List.replicate m.toNat e.d) q.toNat (by rw [size_madeCells, t3]; exact Nat.le_refl _) (by simp; omega) (fun p j hp hj => by
      have hp' : p < m.toNat := by simpa using hp
      have hgd : (List.replicate m.toNat e.d).getD p e.d = e.d := by simp [List.getD, hp']
      have hcell : (madeCells z.cells (q.toNat * i.size)).toList.getD (p * e.sz + j) undef = z.cells.toList.getD j undef := by
        have hlt : p * e.sz + j < q.toNat * i.size := by
          rw [t3]
          have : p * e.sz + e.sz ≤ q.toNat * e.sz := by rw [← Nat.succ_mul]; exact Nat.mul_le_mul_right _ (by omega)
          omega
        have hmod : (p * e.sz + j) % z.cells.size = j := by rw [t5, Nat.mul_comm, Nat.mul_add_mod]; exact Nat.mod_eq_of_lt hj
        have hjs : j < z.cells.size := by omega
        simp [madeCells, List.getD, hlt, hmod, hjs, getElem!_pos]
      rw [hgd, hcell]
      rcases t7 j hj with h | ⟨e', h, h'⟩
      · rw [h]; exact .v _
      · rw [h, h']; exact .rd (fun _ _ => undef) rfl (Nat.le_refl _) (fun h => absurd h (by omega)) (fun i j hi => absurd hi (by omega)))
    refine ⟨_, _, c', _, st.base, _, hrun, he, ?_, by rw [← List.append_assoc]; exact hh, hst.hn, hk⟩
    have := RelV.sl (c := c') (sz := e.sz) (off := 0) (n := m.toNat) (b := w.heap.size) (o := 0) hloc (by show 0 + m.toNat ≤ q.toNat; omega) (fun _ => ⟨rfl, by simp⟩)
    simpa [St.next] using this
  · exact hk.elim
end Go.Eng
end
section
set_option linter.unusedSimpArgs false
set_option linter.unusedVariables false
namespace Go.Eng
variable {P : Program} {E : Env}
/-- An optional bound: a number; the default. -/
def bnd (o : Option AVal) (d : Int) (k : Int → Prop) : Prop :=
  match o with
  | none => k d
  | some (.v (.int _ n)) => k n
  | some _ => False
def strCut (s : ByteArray) (l h : Nat) : ByteArray := s.extract l h
def vSlice (E : Env) (T : TypeId) (x : AVal) (lo hi : Option AVal) (k : AVal → Prop) : Prop :=
  match E.knd T, E.sl T, x with
  | some .string, _, .v (.string s) => bnd lo 0 fun l => bnd hi s.size fun h => (0 ≤ l ∧ l ≤ h ∧ h ≤ s.size) ∧ k (.v (.string (strCut s l.toNat h.toNat)))
  | _, some e', .rd e xs => bnd lo 0 fun l => bnd hi xs.length fun h => e' = e ∧ (0 ≤ l ∧ l ≤ h ∧ h ≤ xs.length) ∧ k (.rd e ((xs.drop l.toNat).take (h.toNat - l.toNat)))
  | _, some e, .sl sz id off n => bnd lo 0 fun l => bnd hi n fun h => e.sz = sz ∧ (0 ≤ l ∧ l ≤ h ∧ h ≤ n) ∧ k (.sl sz id (off + l.toNat) (h.toNat - l.toNat))
  | _, _, _ => False
theorem bnd_ok {o : Option AVal} {d : Int} {k : Int → Prop} (h : bnd o d k) {c : Ctx} {u : Option Value} (hu : ∀ x, o = some x → ∃ y, u = some y ∧ RelV c x y) (hn : o = none → u = none) :
    (u = none ∧ k d) ∨ ∃ kk n, u = some (.int kk n) ∧ k n := by
  unfold bnd at h
  split at h
  · exact .inl ⟨hn rfl, h⟩
  · rename_i kk n
    obtain ⟨y, hy, hr⟩ := hu _ rfl
    have := hr.v_inv; subst this
    exact .inr ⟨kk, n, hy, h⟩
  · exact h.elim
theorem run_sliceBound {kk : IntKind} {i : Int} {y : Nat} {code : BoundsCode} (h : 0 ≤ i ∧ i ≤ y) (w : World) : (Instr.sliceBound (.int kk i) y code).run P w = .ok i.toNat w := by
  simp only [Instr.sliceBound, Sem.run_bind, asIntOf, Sem.run_pure, Result.andThen_ok, if_pos h]
theorem run_sliceBounds {isS : Bool} {len cap : Nat} {lo hi : Option Value} (l h : Int) (hlo : (lo = none ∧ l = 0) ∨ ∃ kk, lo = some (.int kk l)) (hhi : (hi = none ∧ h = len) ∨ ∃ kk, hi = some (.int kk h))
    (hb : 0 ≤ l ∧ l ≤ h ∧ h ≤ len) (hc : len ≤ cap) (w : World) : (Instr.sliceBounds isS len cap lo hi none).run P w = .ok (l.toNat, h.toNat, cap) w := by
  have h2 : ((h.toNat : Nat) : Int) = h := by omega
  rcases hlo with ⟨rfl, rfl⟩ | ⟨kk, rfl⟩ <;> rcases hhi with ⟨rfl, rfl⟩ | ⟨kk', rfl⟩
  · simp [Instr.sliceBounds]
  · simp only [Instr.sliceBounds, Sem.run_bind, Sem.run_pure, Result.andThen_ok]
    rw [run_sliceBound (by omega)]; rfl
  · simp only [Instr.sliceBounds, Sem.run_bind, Sem.run_pure, Result.andThen_ok, Option.isSome]
    simp only [Bool.false_eq_true, if_false]
    rw [run_sliceBound (by omega)]; rfl
  · simp only [Instr.sliceBounds, Sem.run_bind, Sem.run_pure, Result.andThen_ok, Option.isSome]
    simp only [Bool.false_eq_true, if_false]
    rw [run_sliceBound (by omega)]
    simp only [Result.andThen_ok]
    rw [run_sliceBound (by omega)]; rfl
theorem map_ev_ok {n : Nat} {c : Ctx} {st : St} {a : Act} {w : World} (hst : RelSt n c st a w) (o : Option Operand) :
    (∀ x, o.map st.ev = some x → ∃ y, o.map a.eval = some y ∧ RelV c x y) ∧ (o.map st.ev = none → o.map a.eval = none) := by
  cases o with
  | none => exact ⟨fun x h => (by cases h), fun _ => rfl⟩
  | some o => exact ⟨fun x (h : some (st.ev o) = some x) => (by injection h with h; rw [← h]; exact ⟨_, rfl, hst.ev o⟩), fun h => (by simp at h)⟩
theorem vSlice_ok (hE : EnvOk P E) {T : TypeId} {st : St} {X : AVal} {lo hi : Option Operand} {k : AVal → Prop} (hk : vSlice E T X (lo.map st.ev) (hi.map st.ev) k)
    {n : Nat} {c : Ctx} {a : Act} {w : World} (hst : RelSt n c st a w) {u : Value} (hx : RelV c X u) :
    ∃ z r, (Instr.sliceAt T u (lo.map a.eval) (hi.map a.eval) none).run P w = .ok z w ∧ RelV c r z ∧ k r := by
  obtain ⟨hlo1, hlo2⟩ := map_ev_ok hst lo
  obtain ⟨hhi1, hhi2⟩ := map_ev_ok hst hi
  unfold vSlice at hk
  split at hk
  · rename_i s hT
    have e1 := hx.v_inv; subst e1
    obtain ⟨l, hl, hk⟩ : ∃ l, ((lo.map a.eval = none ∧ l = 0) ∨ ∃ kk, lo.map a.eval = some (.int kk l)) ∧ bnd (hi.map st.ev) s.size fun h => (0 ≤ l ∧ l ≤ h ∧ h ≤ s.size) ∧ k (.v (.string (strCut s l.toNat h.toNat))) := by
      rcases bnd_ok hk hlo1 hlo2 with ⟨h1, h2⟩ | ⟨kk, m, h1, h2⟩
      · exact ⟨0, .inl ⟨h1, rfl⟩, h2⟩
      · exact ⟨m, .inr ⟨kk, h1⟩, h2⟩
    obtain ⟨h, hh, hb, hk⟩ : ∃ h : Int, ((hi.map a.eval = none ∧ h = s.size) ∨ ∃ kk, hi.map a.eval = some (.int kk h)) ∧ (0 ≤ l ∧ l ≤ h ∧ h ≤ s.size) ∧ k (.v (.string (strCut s l.toNat h.toNat))) := by
      rcases bnd_ok hk hhi1 hhi2 with ⟨h1, h2⟩ | ⟨kk, m, h1, h2⟩
      · exact ⟨_, .inl ⟨h1, rfl⟩, h2⟩
      · exact ⟨m, .inr ⟨kk, h1⟩, h2⟩
    refine ⟨_, _, ?_, .v _, hk⟩
    simp only [Instr.sliceAt, Sem.run_bind, run_underlying (hE.knd _ _ hT), Result.andThen_ok, Instr.slice, Option.isSome, Bool.false_eq_true, if_false]
    rw [run_sliceBounds l h hl hh hb (Nat.le_refl _)]
    rfl
  · rename_i e' e xs hT
    obtain ⟨et, i, z, t1, t2, t3, t4, t5, t6⟩ := hE.sl _ _ hT
    cases hx with
    | @rd _ _ ad cp n' g hl hcp ha hr =>
      subst hl
      obtain ⟨l, hl, hk⟩ : ∃ l, ((lo.map a.eval = none ∧ l = 0) ∨ ∃ kk, lo.map a.eval = some (.int kk l)) ∧ bnd (hi.map st.ev) xs.length fun h => e' = e ∧ (0 ≤ l ∧ l ≤ h ∧ h ≤ xs.length) ∧ k (.rd e ((xs.drop l.toNat).take (h.toNat - l.toNat))) := by
        rcases bnd_ok hk hlo1 hlo2 with ⟨h1, h2⟩ | ⟨kk, m, h1, h2⟩
        · exact ⟨0, .inl ⟨h1, rfl⟩, h2⟩
        · exact ⟨m, .inr ⟨kk, h1⟩, h2⟩
      obtain ⟨h, hh, rfl, hb, hk⟩ : ∃ h : Int, ((hi.map a.eval = none ∧ h = xs.length) ∨ ∃ kk, hi.map a.eval = some (.int kk h)) ∧ e' = e ∧ (0 ≤ l ∧ l ≤ h ∧ h ≤ xs.length) ∧ k (.rd e ((xs.drop l.toNat).take (h.toNat - l.toNat))) := by
        rcases bnd_ok hk hhi1 hhi2 with ⟨h1, h2⟩ | ⟨kk, m, h1, h2⟩
        · exact ⟨_, .inl ⟨h1, rfl⟩, h2⟩
        · exact ⟨m, .inr ⟨kk, h1⟩, h2⟩
      have hlen : ((xs.drop l.toNat).take (h.toNat - l.toNat)).length = h.toNat - l.toNat := by simp; omega
      refine ⟨.slice (if cp = l.toNat then ad else ad.map (·.add (l.toNat * i.size))) (h.toNat - l.toNat) (cp - l.toNat), _, ?_, ?_, hk⟩
      · simp only [Instr.sliceAt, Sem.run_bind, run_underlying t1, Result.andThen_ok, Instr.slice]
        rw [run_sliceBounds l h hl hh hb hcp]
        simp only [Result.andThen_ok, Sem.run_bind, run_sizeOf t2]
        rfl
      · refine .rd (fun p q => g (l.toNat + p) q) hlen (by omega) (fun hpos => ?_) (fun p q hp hq => ?_)
        · obtain ⟨b, o, cells, T', fr, rfl, hs, hc⟩ := ha (by omega)
          have hne : ¬ cp = l.toNat := by omega
          refine ⟨b, o + l.toNat * e'.sz, cells, T', fr, ?_, hs, fun p q hp hq => ?_⟩
          · rw [if_neg hne, t3]; simp [addr_add]
          · have := hc (l.toNat + p) q (by omega) hq
            rwa [Nat.add_mul, ← Nat.add_assoc] at this
        · have := hr (l.toNat + p) q (by omega) hq
          have e1 : ((xs.drop l.toNat).take (h.toNat - l.toNat)).getD p e'.d = xs.getD (l.toNat + p) e'.d := by simp [List.getD, hp]
          rw [e1]; exact this
  · rename_i e sz id off m hT
    obtain ⟨et, i, z, t1, t2, t3, t4, t5, t6⟩ := hE.sl _ _ hT
    cases hx with
    | @sl _ _ _ _ b o ll hl' hn ha =>
      obtain ⟨l, hl, hk⟩ : ∃ l, ((lo.map a.eval = none ∧ l = 0) ∨ ∃ kk, lo.map a.eval = some (.int kk l)) ∧ bnd (hi.map st.ev) m fun h => e.sz = sz ∧ (0 ≤ l ∧ l ≤ h ∧ h ≤ m) ∧ k (.sl sz id (off + l.toNat) (h.toNat - l.toNat)) := by
        rcases bnd_ok hk hlo1 hlo2 with ⟨h1, h2⟩ | ⟨kk, m, h1, h2⟩
        · exact ⟨0, .inl ⟨h1, rfl⟩, h2⟩
        · exact ⟨m, .inr ⟨kk, h1⟩, h2⟩
      obtain ⟨h, hh, rfl, hb, hk⟩ : ∃ h : Int, ((hi.map a.eval = none ∧ h = m) ∨ ∃ kk, hi.map a.eval = some (.int kk h)) ∧ e.sz = sz ∧ (0 ≤ l ∧ l ≤ h ∧ h ≤ m) ∧ k (.sl sz id (off + l.toNat) (h.toNat - l.toNat)) := by
        rcases bnd_ok hk hhi1 hhi2 with ⟨h1, h2⟩ | ⟨kk, m, h1, h2⟩
        · exact ⟨_, .inl ⟨h1, rfl⟩, h2⟩
        · exact ⟨m, .inr ⟨kk, h1⟩, h2⟩
      have hrun : (Instr.sliceAt T (.slice (some ⟨b, o, none⟩) m (ll.cap - off)) (lo.map a.eval) (hi.map a.eval) none).run P w =
          .ok (.slice (if ll.cap - off = l.toNat then some ⟨b, o, none⟩ else some ⟨b, o + l.toNat * e.sz, none⟩) (h.toNat - l.toNat) (ll.cap - off - l.toNat)) w := by
        simp only [Instr.sliceAt, Sem.run_bind, run_underlying t1, Result.andThen_ok, Instr.slice]
        rw [run_sliceBounds l h hl hh hb (by omega)]
        simp only [Result.andThen_ok, Sem.run_bind, run_sizeOf t2, t3, Sem.run_pure, Option.map_some, addr_add]
      rw [hrun]
      have hcap : ll.cap - off - l.toNat = ll.cap - (off + l.toNat) := by omega
      by_cases hc : ll.cap - off = l.toNat
      · refine ⟨_, _, rfl, ?_, hk⟩
        rw [if_pos hc, hcap]
        exact .sl hl' (by omega) (fun h => absurd h (by omega))
      · refine ⟨_, _, rfl, ?_, hk⟩
        rw [if_neg hc, hcap]
        obtain ⟨rfl, rfl⟩ := ha (by omega)
        exact .sl hl' (by omega) (fun h => ⟨rfl, by rw [Nat.add_mul, Nat.add_assoc]⟩)
  · exact hk.elim
/-! ### append -/
/-- The elements that a slice bears. -/
def elems (e : ETy) (st : St) (x : AVal) (k : List e.T → Prop) : Prop :=
  match x with
  | .rd e' ys => if h : e' = e then k (h ▸ ys) else False
  | .sl sz id off m =>
    match st.get id with
    | .row _ e' ys => if h : e' = e then sz = e.sz ∧ off + m ≤ ys.length ∧ k (((h ▸ ys : List e.T).drop off).take m) else False
    | _ => False
  | .v (.slice none 0 0) => k []
  | _ => False
def vAppend (E : Env) (T : TypeId) (st : St) (x y : AVal) (k : AVal → List ABox → List ABox → Prop) : Prop :=
  match E.sl T with
  | none => False
  | some e => elems e st y fun ys =>
    match x with
    | .v (.slice none 0 0) => (0 < ys.length ∧ ys.length ≤ 1000000000) ∧ k (.sl e.sz st.next 0 ys.length) st.base (st.loc ++ [.row false e ys])
    | .sl sz id off m =>
      match st.get id with
      | .row false e' xs => if h : e' = e then sz = e.sz ∧ (off + m ≤ xs.length ∧ m + ys.length ≤ 1000000000) ∧
          st.setBox id .dead (fun b l => k (.sl e.sz st.next 0 (m + ys.length)) b (l ++ [.row false e (((h ▸ xs : List e.T).drop off).take m ++ ys)])) else False
      | _ => False
    | _ => False
/-- copy, of numbers, onto a slice of our own. -/
def vCopy (E : Env) (T : TypeId) (st : St) (x y : AVal) (k : AVal → List ABox → List ABox → Prop) : Prop :=
  match E.sl T, x with
  | some (.int kk), .sl sz id off m => elems (.int kk) st y fun ys =>
    match st.get id with
    | .row false (.int k2) xs => (k2 = kk ∧ sz = 1 ∧ off + m ≤ xs.length) ∧ (0 < m ∧ 0 < ys.length) ∧
        st.setBox id (.row false (.int k2) (xs.take off ++ ys.take m ++ xs.drop (off + min ys.length m))) (fun b l => k (.v (.int .i64 (min ys.length m : Nat))) b l)
    | _ => False
  | _, _ => False
/-- What 'elems' gives: the source's cells. -/
theorem elems_ok {T : TypeId} {e : ETy} {st : St} {Y : AVal} {k : List e.T → Prop} (hk : elems e st Y k) {n : Nat} {c : Ctx} {a : Act} {w : World} (hst : RelSt n c st a w) {v : Value} (hy : RelV c Y v) :
    ∃ ad m cp ys, v = .slice ad m cp ∧ ys.length = m ∧ k ys ∧ (ad = none → m = 0 ∧ cp = 0 ∨ m = 0) ∧
      ∃ news : List Value, news.length = m * e.sz ∧ (∀ b, ad = some b → ∀ j u, news[j]? = some u → w.cell? (b.add j) = some u) ∧ (0 < m → ad ≠ none) ∧
        ∀ i j, i < m → j < e.sz → RelV c ((e.enc (ys.getD i e.d)).getD j .junk) (news.getD (i * e.sz + j) undef) := by
  unfold elems at hk
  split at hk
  · rename_i e' ys
    split at hk
    · rename_i h; subst h
      cases hy with
      | @rd _ _ ad cp m g hl hcp ha hr =>
        refine ⟨ad, m, cp, ys, rfl, hl, hk, fun h => .inr ?_, (List.range (m * e'.sz)).map (fun q => g (q / e'.sz) (q % e'.sz)), by simp, fun b hb j u hj => ?_, fun hm => ?_, fun i j hi hj => ?_⟩
        · rcases Nat.eq_zero_or_pos m with h0 | h0
          · exact h0
          · obtain ⟨b, o, cells, T', fr, h1, _⟩ := ha h0; rw [h] at h1; cases h1
        · have hjl : j < m * e'.sz := by have := (List.getElem?_eq_some_iff.1 hj).1; simpa using this
          have hm0 : 0 < m := by
            rcases Nat.eq_zero_or_pos m with h0 | h0
            · subst h0; simp at hjl
            · exact h0
          obtain ⟨b', o, cells, T', fr, h1, h2, h3⟩ := ha hm0
          rw [h1] at hb; cases hb
          have hu : g (j / e'.sz) (j % e'.sz) = u := by simpa [hjl] using hj
          have hdiv : j / e'.sz < m := Nat.div_lt_of_lt_mul (by rw [Nat.mul_comm]; exact hjl)
          have hmod : j % e'.sz < e'.sz := Nat.mod_lt _ e'.sz_pos
          have hcell := h3 _ _ hdiv hmod
          have hj' : o + j / e'.sz * e'.sz + j % e'.sz = o + j := by rw [Nat.add_assoc, Nat.mul_comm (j / e'.sz), Nat.div_add_mod]
          rw [hj', hu] at hcell
          rw [addr_add]
          exact (cell_of_block (hst.heap.sealed _ _ h2) _).trans hcell
        · obtain ⟨b, o, cells, T', fr, h1, _⟩ := ha hm; rw [h1]; simp
        · have h1 : i * e'.sz + j < m * e'.sz := by
            have : i * e'.sz + e'.sz ≤ m * e'.sz := by rw [← Nat.succ_mul]; exact Nat.mul_le_mul_right _ hi
            omega
          have h2 : (i * e'.sz + j) / e'.sz = i := by rw [Nat.mul_comm, Nat.mul_add_div e'.sz_pos, Nat.div_eq_of_lt hj]; rfl
          have h3 : (i * e'.sz + j) % e'.sz = j := by rw [Nat.mul_comm, Nat.mul_add_mod]; exact Nat.mod_eq_of_lt hj
          have : ((List.range (m * e'.sz)).map (fun q => g (q / e'.sz) (q % e'.sz))).getD (i * e'.sz + j) undef = g i j := by simp [List.getD, h1, h2, h3]
          rw [this]; exact hr i j hi hj
    · exact hk.elim
  · rename_i sz id off m
    split at hk
    · rename_i ro e' ys hb
      split at hk
      · rename_i h; subst h
        obtain ⟨rfl, hle, hk⟩ := hk
        cases hy with
        | @sl _ _ _ _ b o ll hl hn ha =>
          obtain ⟨l', hl', hB⟩ := hst.heap.box id _ (St.get_some hb rfl) rfl
          rw [hl] at hl'; cases hl'
          have hf : ∃ f : Nat → Nat → Value, ∀ i j, i < ys.length → j < e'.sz → w.cell? ⟨ll.blk, ll.off + i * e'.sz + j, none⟩ = some (f i j) ∧ RelV c ((e'.enc (ys.getD i e'.d)).getD j .junk) (f i j) :=
            ⟨fun i j => (w.cell? ⟨ll.blk, ll.off + i * e'.sz + j, none⟩).getD undef, fun i j hi hj => by
              obtain ⟨u, h1, h2⟩ := hB.row_cells hi j (by rw [ETy.enc_length]; exact hj); simp only [h1]; exact ⟨rfl, h2⟩⟩
          obtain ⟨f, hf⟩ := hf
          refine ⟨_, m, _, (ys.drop off).take m, rfl, by simp; omega, hk, fun h => (by cases h), (List.range (m * e'.sz)).map (fun q => f (off + q / e'.sz) (q % e'.sz)), by simp, fun bb hbb j u hj => ?_, fun _ => by simp, fun i j hi hj => ?_⟩
          · cases hbb
            have hjl : j < m * e'.sz := by have := (List.getElem?_eq_some_iff.1 hj).1; simpa using this
            have hm0 : 0 < m := by
              rcases Nat.eq_zero_or_pos m with h0 | h0
              · subst h0; simp at hjl
              · exact h0
            obtain ⟨rfl, rfl⟩ := ha (by omega)
            have hu : f (off + j / e'.sz) (j % e'.sz) = u := by simpa [hjl] using hj
            have hdiv : j / e'.sz < m := Nat.div_lt_of_lt_mul (by rw [Nat.mul_comm]; exact hjl)
            have hmod : j % e'.sz < e'.sz := Nat.mod_lt _ e'.sz_pos
            have hcell := (hf (off + j / e'.sz) (j % e'.sz) (by omega) hmod).1
            have hj' : ll.off + (off + j / e'.sz) * e'.sz + j % e'.sz = ll.off + off * e'.sz + j := by
              rw [Nat.add_mul, ← Nat.add_assoc, Nat.add_assoc (ll.off + off * e'.sz), Nat.mul_comm (j / e'.sz), Nat.div_add_mod]
            rw [hj', hu] at hcell
            rw [addr_add]; exact hcell
          · have h1 : i * e'.sz + j < m * e'.sz := by
              have : i * e'.sz + e'.sz ≤ m * e'.sz := by rw [← Nat.succ_mul]; exact Nat.mul_le_mul_right _ hi
              omega
            have h2 : (i * e'.sz + j) / e'.sz = i := by rw [Nat.mul_comm, Nat.mul_add_div e'.sz_pos, Nat.div_eq_of_lt hj]; rfl
            have h3 : (i * e'.sz + j) % e'.sz = j := by rw [Nat.mul_comm, Nat.mul_add_mod]; exact Nat.mod_eq_of_lt hj
            have e1 : ((List.range (m * e'.sz)).map (fun q => f (off + q / e'.sz) (q % e'.sz))).getD (i * e'.sz + j) undef = f (off + i) j := by simp [List.getD, h1, h2, h3]
            have e2 : ((ys.drop off).take m).getD i e'.d = ys.getD (off + i) e'.d := by simp [List.getD, hi]
            rw [e1, e2]
            exact (hf (off + i) j (by omega) hj).2
      · exact hk.elim
    · exact hk.elim
  · have := hy.v_inv; subst this
    exact ⟨none, 0, 0, [], rfl, rfl, hk, fun _ => .inr rfl, [], by simp, fun b hb => (by cases hb), fun h => absurd h (by omega), fun i j hi => absurd hi (by omega)⟩
  · exact hk.elim
end Go.Eng
end

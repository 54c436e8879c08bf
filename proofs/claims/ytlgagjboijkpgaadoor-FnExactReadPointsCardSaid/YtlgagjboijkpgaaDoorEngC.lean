/- The engine, part C: the machine does what the abstract operations say: operations that only compute or read. -/
import Derived.Test.YtlgagjboijkpgaaDoorEngB
import Derived.Lib.BufferRead
set_option linter.unusedSimpArgs false
set_option linter.unusedVariables false
namespace Go.Eng

theorem RelV.v_inv {c : Ctx} {x u : Value} (h : RelV c (.v x) u) : u = x := by cases h; rfl
theorem RelV.agg2_inv {c : Ctx} {x y : Value} {u : Value} (h : RelV c (.agg [.v x, .v y]) u) : u = .agg #[x, y] := by
  cases h with
  | @agg cs vs hl h =>
    match vs, hl with
    | [p, q], _ =>
      have h0 := (h 0 (by simp)).v_inv
      have h1 := (h 1 (by simp)).v_inv
      simp at h0 h1
      subst h0; subst h1; rfl

theorem ba_toList_eq (a b : ByteArray) : (a.toList == b.toList) = decide (a = b) := by
  rw [ByteArray.toList_eq, ByteArray.toList_eq]
  by_cases h : a = b
  · subst h; simp
  · have : a.data.toList ≠ b.data.toList := fun e => h (by
      cases a; cases b; simp at e; exact congrArg _ e)
    rw [decide_eq_false h]; exact beq_eq_false_iff_ne.2 this

variable {P : Program} {E : Env}

theorem wp_value {o : Oper} {a : Act} {w w' : World} {K : Act → World → Prop} {Q : Exit → Act → World → Prop} {v : Value}
    (h : (execOp a.eval o).run P w = .ok (.value v) w') (hk : K (a.put o.dst v) w') : o.wp P a w K Q := by
  unfold Oper.wp; rw [h]; exact hk

theorem run_ifc_nil {t : TypeId} {ms : _} (h : P.underlying t = some (.interface ms)) (tx : TypeId) (vx : Value) (w : World) : (Op.equal t (.iface tx vx) .nilIface).run P w = .ok false w := by
  unfold Op.equal
  rw [show Op.maxDepth = 9999 + 1 from rfl, Op.equalIn]
  simp only [Sem.run_bind, run_underlying h, Result.andThen_ok, Sem.run_pure]
theorem run_nil_nil {t : TypeId} {ms : _} (h : P.underlying t = some (.interface ms)) (w : World) : (Op.equal t .nilIface .nilIface).run P w = .ok true w := by
  unfold Op.equal
  rw [show Op.maxDepth = 9999 + 1 from rfl, Op.equalIn]
  simp only [Sem.run_bind, run_underlying h, Result.andThen_ok, Sem.run_pure]
set_option maxHeartbeats 1000000 in
theorem vBin_ok (hE : EnvOk P E) {op : BinOp} {T : TypeId} {X Y : AVal} {k : AVal → Prop} {xo yo : Operand} (hk : vBin E op T (isC xo || isC yo) X Y k) {c : Ctx} {u v : Value} (hx : RelV c X u) (hy : RelV c Y v) (w : World) :
    ∃ z r, (do eqGuard op T xo yo u v; binOp op T u v : Sem Value).run P w = .ok z w ∧ RelV c r z ∧ k r := by
  unfold vBin at hk
  split at hk
  case h_12 a b =>
    have e1 := hx.v_inv; have e2 := hy.v_inv; subst e1; subst e2
    have h1 := run_eql_bool (P := P) w T a b (hE.knd _ _ hk.1)
    refine ⟨_, _, ?_, .v _, hk.2⟩
    simp [eqGuard, h1]
    cases a <;> cases b <;> rfl
  case h_13 a b =>
    have e1 := hx.v_inv; have e2 := hy.v_inv; subst e1; subst e2
    have h1 := run_equal_bool (P := P) w T a b (hE.knd _ _ hk.1)
    refine ⟨_, _, ?_, .v _, hk.2⟩
    simp [eqGuard, binOp, h1]
    cases a <;> cases b <;> rfl
  case h_14 a b =>
    have e1 := hx.v_inv; have e2 := hy.v_inv; subst e1; subst e2
    refine ⟨_, _, ?_, .v _, hk.2⟩
    have := hk.1
    have h2 : ¬ ((a.size + b.size : Nat) : Int) > IntKind.i64.max := by
      have : IntKind.i64.max = 9223372036854775807 := rfl
      omega
    simp [eqGuard, binOp, Op.stringOp]
    omega
  case h_15 a b =>
    have e1 := hx.v_inv; have e2 := hy.v_inv; subst e1; subst e2
    refine ⟨_, _, ?_, .v _, hk⟩
    simp [eqGuard, binOp, Op.stringOp, ba_toList_eq]
  case h_16 a b =>
    have e1 := hx.v_inv; have e2 := hy.v_inv; subst e1; subst e2
    refine ⟨_, _, ?_, .v _, hk⟩
    simp [eqGuard, binOp, Op.stringOp, ba_toList_eq]
  case h_17 a b c' d =>
    have e1 := hx.agg2_inv; have e2 := hy.agg2_inv; subst e1; subst e2
    refine ⟨_, _, ?_, .v _, hk.2⟩
    obtain ⟨h1, h2⟩ := hE.pts T hk.1 a b c' d w
    simp only [Sem.run_bind, h2, Result.andThen_ok, binOp, h1, Sem.run_pure]
  case h_18 a b c' d =>
    have e1 := hx.agg2_inv; have e2 := hy.agg2_inv; subst e1; subst e2
    refine ⟨_, _, ?_, .v _, hk.2⟩
    obtain ⟨h1, h2⟩ := hE.pts T hk.1 a b c' d w
    simp only [Sem.run_bind, h2, Result.andThen_ok, binOp, h1, Sem.run_pure, decide_not]
  case h_19 => 
    have e1 := hx.v_inv; have e2 := hy.v_inv; subst e1; subst e2
    obtain ⟨rfl, hk⟩ := hk
    exact ⟨_, _, by simp [eqGuard, binOp, Op.intBits]; rfl, .v _, hk⟩
  case h_20 =>
    have e1 := hx.v_inv; have e2 := hy.v_inv; subst e1; subst e2
    obtain ⟨rfl, hk⟩ := hk
    exact ⟨_, _, by simp [eqGuard, binOp, Op.intBits]; rfl, .v _, hk⟩
  case h_21 =>
    have e1 := hx.v_inv; have e2 := hy.v_inv; subst e1; subst e2
    obtain ⟨rfl, hk⟩ := hk
    exact ⟨_, _, by simp [eqGuard, binOp]; unfold Op.intBits; rfl, .v _, hk⟩
  case h_22 =>
    have e1 := hx.v_inv; have e2 := hy.v_inv; subst e1; subst e2
    obtain ⟨rfl, hk⟩ := hk
    exact ⟨_, _, by simp [eqGuard, binOp, Op.intBits]; rfl, .v _, hk⟩
  case h_23 i a j b =>
    have e1 := hx.v_inv; have e2 := hy.v_inv; subst e1; subst e2
    obtain ⟨h0, hk⟩ := hk
    have h1 : ¬ b < 0 := by omega
    exact ⟨_, _, by simp [eqGuard, binOp, Op.shift, h1], .v _, hk⟩
  case h_24 i a j b =>
    have e1 := hx.v_inv; have e2 := hy.v_inv; subst e1; subst e2
    obtain ⟨h0, hk⟩ := hk
    have h1 : ¬ b < 0 := by omega
    exact ⟨_, _, by simp [eqGuard, binOp, Op.shift, h1], .v _, hk⟩
  case h_25 t p =>
    have e1 := hx.v_inv; have e2 := hy.v_inv; subst e1; subst e2
    obtain ⟨ms, h1⟩ := hE.ifc _ hk.1
    exact ⟨_, _, by simp [eqGuard, binOp, run_ifc_nil h1], .v _, hk.2⟩
  case h_26 t p =>
    have e1 := hx.v_inv; have e2 := hy.v_inv; subst e1; subst e2
    obtain ⟨ms, h1⟩ := hE.ifc _ hk.1
    exact ⟨_, _, by simp [eqGuard, binOp, run_ifc_nil h1], .v _, hk.2⟩
  case h_27 =>
    have e1 := hx.v_inv; have e2 := hy.v_inv; subst e1; subst e2
    obtain ⟨ms, h1⟩ := hE.ifc _ hk.1
    have h2 := hk.2.1
    refine ⟨.bool true, _, ?_, .v _, hk.2.2⟩
    have hg : (eqGuard .eql T xo yo .nilIface .nilIface).run P w = .ok () w := by
      unfold isC at h2
      cases xo <;> cases yo <;> first | rfl | (simp at h2)
    rw [Sem.run_bind, hg]
    simp [binOp, run_nil_nil h1]
  case h_28 =>
    have e1 := hx.v_inv; have e2 := hy.v_inv; subst e1; subst e2
    obtain ⟨ms, h1⟩ := hE.ifc _ hk.1
    have h2 := hk.2.1
    refine ⟨.bool false, _, ?_, .v _, hk.2.2⟩
    have hg : (eqGuard .neq T xo yo .nilIface .nilIface).run P w = .ok () w := by
      unfold isC at h2
      cases xo <;> cases yo <;> first | rfl | (simp at h2)
    rw [Sem.run_bind, hg]
    simp [binOp, run_nil_nil h1]
  case h_29 => exact hk.elim
  all_goals
    have e1 := hx.v_inv; have e2 := hy.v_inv; subst e1; subst e2
    obtain ⟨rfl, hk⟩ := hk
  case h_4 => obtain ⟨h0, hk⟩ := hk; exact ⟨_, _, by simp [eqGuard, binOp, Op.intDiv, h0], .v _, hk⟩
  case h_5 => obtain ⟨h0, hk⟩ := hk; exact ⟨_, _, by simp [eqGuard, binOp, Op.intDiv, h0], .v _, hk⟩
  case h_6 i a b => exact ⟨.bool (a == b), _, by simp [eqGuard, binOp, Op.intCmp], by rw [show (a == b) = decide (a = b) from rfl]; exact .v _, hk⟩
  case h_7 i a b => exact ⟨.bool (a != b), _, by simp [eqGuard, binOp, Op.intCmp], by rw [show (a != b) = decide (a ≠ b) from by rw [decide_not]; rfl]; exact .v _, hk⟩
  all_goals exact ⟨_, _, by simp [eqGuard, binOp, Op.intArith, Op.intCmp], .v _, hk⟩

theorem vUn_ok {op : UnOp} {X : AVal} {k : AVal → Prop} (hk : vUn op X k) {c : Ctx} {u : Value} (hx : RelV c X u) (w : World) :
    ∃ z r, (Op.unary op u).run P w = .ok z w ∧ RelV c r z ∧ k r := by
  unfold vUn at hk
  split at hk
  · have e1 := hx.v_inv; subst e1; exact ⟨_, _, rfl, .v _, hk⟩
  · have e1 := hx.v_inv; subst e1; exact ⟨_, _, rfl, .v _, hk⟩
  · exact hk.elim

theorem addr_add (b o n : Nat) : (⟨b, o, none⟩ : Addr).add n = ⟨b, o + n, none⟩ := by
  unfold Addr.add; split <;> simp_all
theorem vConv_ok (hE : EnvOk P E) {src dst : TypeId} {X : AVal} {k : AVal → Prop} (hk : vConv E src dst X k) {c : Ctx} {u : Value} (hx : RelV c X u) {H : List ABox} {w : World} (hh : RelH c H w) :
    ∃ z r, (convert src dst u).run P w = .ok z w ∧ RelV c r z ∧ k r := by
  unfold vConv at hk
  split at hk
  · rename_i h1 h2
    have e1 := hx.v_inv; subst e1
    refine ⟨_, _, ?_, .v _, hk⟩
    simp only [convert, Sem.run_bind, run_underlying (hE.knd _ _ h1), run_underlying (hE.knd _ _ h2), Result.andThen_ok]
    rfl
  · rename_i xs h2
    obtain ⟨⟨hb, hxs⟩, hk⟩ := hk
    obtain ⟨et, t1, t2⟩ := hE.byt _ hb
    refine ⟨_, _, ?_, .v _, hk⟩
    have hl8 : (xs.map fun n => UInt8.ofNat n.toNat).map (fun b => (b.toNat : Int)) = xs := by
      rw [List.map_map]
      conv => rhs; rw [← List.map_id xs]
      refine List.map_congr_left fun n hn => ?_
      have h9 : (0 : Int) ≤ (show Int from n) ∧ (show Int from n) < 256 := hxs n hn
      show ((UInt8.ofNat (show Int from n).toNat).toNat : Int) = (show Int from n)
      generalize (show Int from n) = n at h9 ⊢
      have h8 : n.toNat % 256 = n.toNat := Nat.mod_eq_of_lt (by omega)
      rw [UInt8.toNat_ofNat', show (2 : Nat) ^ 8 = 256 from rfl, h8]
      omega
    cases hx with
    | @rd _ _ ad cp n' g hl hcp ha hr =>
      subst hl
      rcases Nat.eq_zero_or_pos xs.length with h0 | hp
      · have hx0 : xs = [] := List.length_eq_zero_iff.1 h0
        subst hx0
        cases ad with
        | none => exact Go.Lib.run_convert_nil_bytes w src dst et cp t1 t2 (hE.knd _ _ h2)
        | some a => exact Go.run_convert_bytes_back w src dst et a cp [] t1 t2 (hE.knd _ _ h2) (fun j hj => absurd hj (by simp))
      · obtain ⟨b, o, cells, T, fr, rfl, h3, h4⟩ := ha hp
        have hw := hh.sealed _ _ h3
        have := Go.run_convert_bytes_back (P := P) w src dst et ⟨b, o, none⟩ cp (xs.map fun n => UInt8.ofNat n.toNat) t1 t2 (hE.knd _ _ h2) (fun j hj => by
          have hj' : j < xs.length := by simpa using hj
          have h5 := h4 j 0 hj' (by decide)
          have h6 := (hr j 0 hj' (by decide)).v_inv
          simp only [ETy.sz, Nat.mul_one, Nat.add_zero] at h5
          rw [addr_add]
          show (match w.heap[b]? with | some (.cells c _ _) => _ | _ => _) = _
          rw [hw]
          simp only [Option.isSome, Bool.false_eq_true, if_false]
          rw [h5, h6]
          have e1 : ((xs.map fun n => UInt8.ofNat n.toNat)[j].toNat : Int) = xs[j] := by
            have := congrArg (fun l => l[j]?) hl8
            simp only [List.getElem?_map, List.getElem?_eq_getElem hj, List.getElem?_eq_getElem hj', Option.map_some] at this
            simpa using this
          rw [e1]
          simp [List.getD, hj'])
        rw [List.length_map] at this
        exact this
  · exact hk.elim

/-! ### Reading memory -/
theorem run_loadVar_cells (hE : EnvOk P E) {T : TypeId} {agg : Bool} {sz : Nat} (hT : E.var T = some (agg, sz)) {w : World} {b o : Nat} (vs : List Value)
    (hv : ∀ j, j < vs.length → w.cell? ⟨b, o + j, none⟩ = some (vs.getD j undef)) :
    (agg = true → vs.length = sz → (loadVar T ⟨b, o, none⟩).run P w = .ok (.agg vs.toArray) w) ∧
    (agg = false → 0 < vs.length → (loadVar T ⟨b, o, none⟩).run P w = .ok (vs.getD 0 undef) w) := by
  obtain ⟨d, i, h1, h2, h3, h4⟩ := hE.var _ _ _ hT
  have hagg : (isAgg T).run P w = .ok agg w := by
    unfold isAgg
    simp only [Sem.run_bind, run_underlying h1, Result.andThen_ok]
    cases d <;> simp at h2 <;> subst h2 <;> rfl
  constructor
  · intro ha hl
    subst ha
    have hload := run_loadCells_list (P := P) (w := w) ⟨b, o, none⟩ vs (fun j v hj => by
      have hlt : j < vs.length := (List.getElem?_eq_some_iff.1 hj).1
      rw [addr_add, hv j hlt]
      simp [List.getD, hj])
    simp only [loadVar, Sem.run_bind, hagg, Result.andThen_ok, if_true, sizeOf, typeInfo, run_program]
    simp [h3, h4, ← hl, hload]
  · intro ha hl
    subst ha
    have := hv 0 hl
    simp only [Nat.add_zero] at this
    simp [loadVar, hagg, this]


theorem cell_of_block {w : World} {b : Nat} {cells : Array Value} {T : TypeId} {fr : Nat × Nat} (h : w.heap[b]? = some (.cells cells T fr)) (o : Nat) : w.cell? ⟨b, o, none⟩ = cells[o]? := by
  simp [World.cell?, h]

/-- The general form of a read: the cells from o on hold what cs says. -/
theorem vPart_ok (hE : EnvOk P E) {T : TypeId} {agg : Bool} {sz : Nat} (hT : E.var T = some (agg, sz)) {cs : List AVal} {j : Nat} {k : AVal → Prop} (hk : vPart agg sz cs j k) {c : Ctx} {w : World} {b o : Nat}
    (hc : ∀ i, i < cs.length → ∃ u, w.cell? ⟨b, o + i, none⟩ = some u ∧ RelV c (cs.getD i .junk) u) :
    ∃ z r, (loadVar T ⟨b, o + j, none⟩).run P w = .ok z w ∧ RelV c r z ∧ k r := by
  have hf : ∃ f : Nat → Value, ∀ i, i < cs.length → w.cell? ⟨b, o + i, none⟩ = some (f i) ∧ RelV c (cs.getD i .junk) (f i) :=
    ⟨fun i => (w.cell? ⟨b, o + i, none⟩).getD undef, fun i hi => by obtain ⟨u, h1, h2⟩ := hc i hi; simp only [h1]; exact ⟨rfl, h2⟩⟩
  obtain ⟨f, hf⟩ := hf
  unfold vPart at hk
  cases agg with
  | true =>
    obtain ⟨hle, hk⟩ := hk
    have hvl : ((List.range sz).map fun i => f (j + i)).length = sz := by simp
    have hget : ∀ i, i < sz → ((List.range sz).map fun i => f (j + i)).getD i undef = f (j + i) := fun i hi => by simp [List.getD, hi]
    have h1 := (run_loadVar_cells hE hT (w := w) (b := b) (o := o + j) ((List.range sz).map fun i => f (j + i)) (fun i hi => by
      rw [hvl] at hi
      rw [hget i hi, Nat.add_assoc, (hf (j + i) (by omega)).1])).1 rfl hvl
    refine ⟨_, _, h1, .agg (by simp; omega) (fun i hi => ?_), hk⟩
    have hi' : i < sz := by simp at hi; omega
    rw [hget i hi']
    have := (hf (j + i) (by omega)).2
    have e : ((cs.drop j).take sz).getD i .junk = cs.getD (j + i) .junk := by
      simp [List.getD, hi']
    rw [e]; exact this
  | false =>
    obtain ⟨hlt, hk⟩ := hk
    have h1 := (run_loadVar_cells hE hT (w := w) (b := b) (o := o + j) [f j] (fun i hi => by
      obtain rfl : i = 0 := by simpa using hi
      exact (hf j hlt).1)).2 rfl (by simp)
    exact ⟨_, _, h1, (hf j hlt).2, hk⟩

/-- What a live box says of the cells. -/
theorem RelB.row_cells {c : Ctx} {w : World} {l : Loc} {ro : Bool} {e : ETy} {xs : List e.T} (h : RelB c w l (.row ro e xs)) {i : Nat} (hi : i < xs.length) :
    ∀ j, j < (e.enc (xs.getD i e.d)).length → ∃ u, w.cell? ⟨l.blk, l.off + i * e.sz + j, none⟩ = some u ∧ RelV c ((e.enc (xs.getD i e.d)).getD j .junk) u := by
  obtain ⟨cells, T, h1, h2, h3, h4, h6⟩ := h
  intro j hj
  rw [ETy.enc_length] at hj
  obtain ⟨u, hu, hr⟩ := h6 i j hi hj
  exact ⟨u, (cell_of_block h1 _).trans hu, hr⟩
theorem RelB.box_cells {c : Ctx} {w : World} {l : Loc} {ro : Bool} {cs : List AVal} (h : RelB c w l (.box ro cs)) :
    ∀ j, j < cs.length → ∃ u, w.cell? ⟨l.blk, l.off + j, none⟩ = some u ∧ RelV c (cs.getD j .junk) u := by
  obtain ⟨cells, T, h1, h2, h6⟩ := h
  intro j hj
  obtain ⟨u, hu, hr⟩ := h6 j hj
  exact ⟨u, (cell_of_block h1 _).trans hu, hr⟩

theorem St.get_some {st : St} {k : Nat} {X : ABox} (h : st.get k = X) (hX : X.live = true) : (st.base ++ st.loc)[k]? = some X := by
  unfold St.get at h
  rw [List.getD] at h
  cases h2 : (st.base ++ st.loc)[k]? with
  | none => rw [h2] at h; subst h; cases hX
  | some Y => rw [h2] at h; simp at h; rw [h]

theorem vLoad_ok (hE : EnvOk P E) {T : TypeId} {st : St} {X : AVal} {k : AVal → Prop} (hk : vLoad E T st X k) {n : Nat} {c : Ctx} {a : Act} {w : World} (hst : RelSt n c st a w) {u : Value} (hx : RelV c X u) :
    ∃ z r, (Instr.loadAt T u).run P w = .ok z w ∧ RelV c r z ∧ k r := by
  unfold vLoad at hk
  split at hk
  · rename_i agg sz esz id i j hT
    cases hx with
    | @ptr _ _ _ _ l hl =>
      have hrun : ∀ A : Addr, (Instr.loadAt T (.pointer (some A))).run P w = (loadVar T A).run P w := fun A => by simp [Instr.loadAt, Instr.sureAddr]
      rw [hrun]
      split at hk
      · rename_i ro cs hb
        obtain ⟨rfl, hk⟩ := hk
        obtain ⟨l', hl', hB⟩ := hst.heap.box id _ (St.get_some hb rfl) rfl
        rw [hl] at hl'; cases hl'
        have := vPart_ok hE hT hk (w := w) (c := c) (b := l.blk) (o := l.off) hB.box_cells
        simpa using this
      · rename_i ro e xs hb
        obtain ⟨rfl, hi, hk⟩ := hk
        obtain ⟨l', hl', hB⟩ := hst.heap.box id _ (St.get_some hb rfl) rfl
        rw [hl] at hl'; cases hl'
        exact vPart_ok hE hT hk (w := w) (c := c) (b := l.blk) (o := l.off + i * e.sz) (hB.row_cells hi)
      · exact hk.elim
  · rename_i agg sz cs j hT
    cases hx with
    | @rp _ _ b o cells T' fr g h hc hr =>
      have hrun : ∀ A : Addr, (Instr.loadAt T (.pointer (some A))).run P w = (loadVar T A).run P w := fun A => by simp [Instr.loadAt, Instr.sureAddr]
      rw [hrun]
      have hh := hst.heap.sealed _ _ h
      exact vPart_ok hE hT hk (w := w) (c := c) (b := b) (o := o) (fun i hi => ⟨g i, (cell_of_block hh _).trans (hc i hi), hr i hi⟩)
  · exact hk.elim

theorem run_sizeOf {T : TypeId} {i : TypeInfo} (h : P.info? T = some i) (w : World) : (sizeOf T).run P w = .ok i.size w := by
  simp [sizeOf, typeInfo, h]

theorem vIdxA_ok (hE : EnvOk P E) {T : TypeId} {X I : AVal} {k : AVal → Prop} (hk : vIdxA E T X I k) {n : Nat} {c : Ctx} {st : St} {a : Act} {w : World} (hst : RelSt n c st a w) {u v : Value} (hx : RelV c X u) (hi : RelV c I v) :
    ∃ z r, (Instr.indexAt T u v).run P w = .ok z w ∧ RelV c r z ∧ k r := by
  unfold vIdxA at hk
  split at hk
  · rename_i e e' xs kk m hT
    obtain ⟨rfl, ⟨h0, h1⟩, hk⟩ := hk
    obtain ⟨et, i, z, t1, t2, t3, t4, t5, t6⟩ := hE.sl _ _ hT
    have e1 := hi.v_inv; subst e1
    cases hx with
    | @rd _ _ a cp n' g hl hcp ha hr =>
      obtain ⟨b, o, cells, T', fr, rfl, hs, hcell⟩ := ha (by omega)
      have hlt : m.toNat < n' := by omega
      refine ⟨.pointer (some ⟨b, o + m.toNat * e.sz, none⟩), _, ?_, .rp (j := 0) (o := o + m.toNat * e.sz) (fun j => g m.toNat j) hs (fun j hj => ?_) (fun j hj => ?_), hk⟩
      · have h1' : m < (n' : Int) := by omega
        simp [Instr.indexAt, asIntOf, run_underlying t1, h0, h1', run_sizeOf t2, t3, addr_add]
      · rw [ETy.enc_length] at hj; exact hcell _ _ hlt hj
      · rw [ETy.enc_length] at hj; exact hr _ _ hlt hj
  · rename_i e sz id off m kk q hT
    obtain ⟨rfl, ⟨h0, h1⟩, hk⟩ := hk
    obtain ⟨et, i, z, t1, t2, t3, t4, t5, t6⟩ := hE.sl _ _ hT
    have e1 := hi.v_inv; subst e1
    cases hx with
    | @sl _ _ _ _ b o l hl hn ha =>
      obtain ⟨rfl, rfl⟩ := ha (by omega)
      refine ⟨.pointer (some ⟨l.blk, l.off + off * e.sz + q.toNat * e.sz, none⟩), _, ?_, ?_, hk⟩
      · simp [Instr.indexAt, asIntOf, run_underlying t1, h0, h1, run_sizeOf t2, t3, addr_add]
      · have := RelV.ptr (c := c) (sz := e.sz) (i := off + q.toNat) (j := 0) hl
        rwa [Nat.add_zero, Nat.add_mul, ← Nat.add_assoc] at this
  · exact hk.elim

theorem vIdx_ok (hE : EnvOk P E) {T : TypeId} {X I : AVal} {k : AVal → Prop} (hk : vIdx E T X I k) {c : Ctx} {u v : Value} (hx : RelV c X u) (hi : RelV c I v) (w : World) :
    ∃ z r, (Instr.index T u v).run P w = .ok z w ∧ RelV c r z ∧ k r := by
  unfold vIdx at hk
  split at hk
  · rename_i s kk m hT
    obtain ⟨⟨h0, h1⟩, hk⟩ := hk
    have e1 := hi.v_inv; subst e1
    have e2 := hx.v_inv; subst e2
    have hlt : m.toNat < s.size := by omega
    refine ⟨_, _, ?_, .v _, hk⟩
    have hg : s[m.toNat]? = some (s.data.getD m.toNat 0) := by
      have hlt' : m.toNat < s.data.size := hlt
      rw [getElem?_pos s m.toNat hlt]
      have : s.data.getD m.toNat 0 = s.data[m.toNat] := by simp only [Array.getD, hlt', dite_true]; rfl
      rw [this]; rfl
    simp only [Instr.index, Sem.run_bind, asIntOf, run_underlying (hE.knd _ _ hT), Result.andThen_ok, Sem.run_pure, if_pos h0, hg]
    rfl
  · exact hk.elim

theorem vFldA_ok (hE : EnvOk P E) {T : TypeId} {f : Nat} {X : AVal} {k : AVal → Prop} (hk : vFldA E T f X k) {c : Ctx} {u : Value} (hx : RelV c X u) (w : World) :
    ∃ z r, (Instr.fieldAt T u f).run P w = .ok z w ∧ RelV c r z ∧ k r := by
  unfold vFldA at hk
  split at hk
  · rename_i o sz id i j hT
    obtain ⟨fs, fl, ii, t1, t2, t3, t4, t5⟩ := hE.fld _ _ _ hT
    cases hx with
    | @ptr _ _ _ _ l hl =>
      refine ⟨.pointer (some ⟨l.blk, l.off + i * sz + (j + o), none⟩), _, ?_, .ptr hl, hk⟩
      simp [Instr.fieldAt, run_underlying t1, t2, Instr.sureAddr, fieldPlace, run_sizeOf t4, t5, addr_add, t3, Nat.add_assoc]
  · rename_i o cs j hT
    obtain ⟨fs, fl, ii, t1, t2, t3, t4, t5⟩ := hE.fld _ _ _ hT
    cases hx with
    | @rp _ _ b o' cells T' fr g h hc hr =>
      refine ⟨.pointer (some ⟨b, o' + (j + o), none⟩), _, ?_, .rp g h hc hr, hk⟩
      simp [Instr.fieldAt, run_underlying t1, t2, Instr.sureAddr, fieldPlace, run_sizeOf t4, t5, addr_add, t3, Nat.add_assoc]
  · exact hk.elim

theorem vExt_ok {X : AVal} {i : Nat} {k : AVal → Prop} (hk : vExt X i k) {c : Ctx} {u : Value} (hx : RelV c X u) (w : World) :
    ∃ z r, (Instr.extract u i).run P w = .ok z w ∧ RelV c r z ∧ k r := by
  unfold vExt at hk
  split at hk
  · obtain ⟨hi, hk⟩ := hk
    cases hx with
    | @tup _ vs hl h =>
      refine ⟨vs.getD i undef, _, ?_, h i hi, hk⟩
      have : i < vs.length := by omega
      simp [Instr.extract, this, List.getD]
  · exact hk.elim

theorem vLen_ok (hE : EnvOk P E) {T ty : TypeId} {X : AVal} {k : AVal → Prop} (hk : vLen E T X k) {c : Ctx} {u : Value} (hx : RelV c X u) (w : World) :
    ∃ z r, (Builtin.len_ #[T] ty #[u]).run P w = .ok z w ∧ RelV c r z ∧ k r := by
  unfold vLen at hk
  split at hk
  · rename_i hT
    have e1 := hx.v_inv; subst e1
    exact ⟨_, _, by simp [Builtin.len_, run_underlying (hE.knd _ _ hT), goInt], .v _, hk⟩
  · rename_i hT
    obtain ⟨et, i, z, t1, _⟩ := hE.sl _ _ hT
    cases hx with
    | @rd _ _ a cp n' g hl hcp ha hr =>
      subst hl
      exact ⟨_, _, by simp [Builtin.len_, run_underlying t1, goInt], .v _, hk⟩
  · rename_i hT
    obtain ⟨et, i, z, t1, _⟩ := hE.sl _ _ hT
    cases hx with
    | sl hl hn ha => exact ⟨_, _, by simp [Builtin.len_, run_underlying t1, goInt], .v _, hk⟩
  · rename_i hT
    obtain ⟨et, i, z, t1, _⟩ := hE.sl _ _ hT
    have e1 := hx.v_inv; subst e1
    exact ⟨_, _, by simp [Builtin.len_, run_underlying t1, goInt], .v _, hk⟩
  · exact hk.elim

theorem vMin_ok {mx : Bool} {ts : Array TypeId} {ty : TypeId} {X Y : AVal} {k : AVal → Prop} (hk : vMin mx X Y k) {c : Ctx} {u v : Value} (hx : RelV c X u) (hy : RelV c Y v) (w : World) :
    ∃ z r, (if mx then Builtin.max_ ts ty #[u, v] else Builtin.min_ ts ty #[u, v]).run P w = .ok z w ∧ RelV c r z ∧ k r := by
  unfold vMin at hk
  split at hk
  · rename_i i a j b
    obtain ⟨rfl, hk⟩ := hk
    have e1 := hx.v_inv; subst e1
    have e2 := hy.v_inv; subst e2
    refine ⟨_, _, ?_, .v _, hk⟩
    cases mx
    · simp [Builtin.min_, Builtin.min2]
      omega
    · simp [Builtin.max_, Builtin.max2]
      omega
  · exact hk.elim

end Go.Eng

/- The engine, part K: two facts on struct types. -/
import Derived.Test.YtlgagjboijkpgaaDoorEngJ
import Derived.ChangeKeysEq
set_option linter.unusedSimpArgs false
set_option linter.unusedVariables false
namespace Go.Eng
variable {P : Program}

theorem build_run {t : TypeId} {i : TypeInfo} {z : Value} {fs : Array Field} {l : List (Nat × Nat)} (h1 : P.info? t = some i) (h2 : i.zero = some z) (h3 : P.underlying t = some (.struct fs))
    (h4 : ∀ w, (fs.mapM (m := Sem) fun f => do pure (f.offset, ← sizeOf f.type)).run P w = .ok l.toArray w) {parts : Array (Nat × Value)} (w : World) :
    ∀ cells, Instr.fill (fun k => l[k]?) z.cells parts.toList = some cells → (Instr.build t parts).run P w = .ok (.agg cells) w := by
  intro cells hf
  have hz : (zeroValue t).run P w = .ok z w := by simp [zeroValue, typeInfo, h1, h2]
  simp only [Instr.build, Sem.run_bind, hz, Result.andThen_ok, run_underlying h3, h4, List.getElem?_toArray, hf]
  rfl
theorem fill_mono (f g : Nat → Option (Nat × Nat)) (h : ∀ i p, f i = some p → g i = some p) : ∀ (ps : List (Nat × Value)) (cells out : Array Value), Instr.fill f cells ps = some out → Instr.fill g cells ps = some out
  | [], cells, out, hf => hf
  | (i, v) :: r, cells, out, hf => by
    unfold Instr.fill at hf ⊢
    cases e : f i with
    | none => rw [e] at hf; cases hf
    | some p =>
      obtain ⟨o, s⟩ := p
      rw [e] at hf; rw [h i _ e]
      simp only at hf ⊢
      split at hf
      · cases hf
      · rename_i hc
        rw [if_neg hc]
        exact fill_mono f g h r _ _ hf
/-- An array of two, built. -/
theorem build_arr {t e : TypeId} {i : TypeInfo} {z : Value} (h1 : P.info? t = some i) (h2 : i.zero = some z) (h3 : P.underlying t = some (.array 2 e)) (hi : ∃ j, P.info? e = some j ∧ j.size = 1) {parts : Array (Nat × Value)} (w : World) :
    ∀ cells, Instr.fill (fun k => [((0 : Nat), (1 : Nat)), (1, 1)][k]?) z.cells parts.toList = some cells → (Instr.build t parts).run P w = .ok (.agg cells) w := by
  intro cells hf
  obtain ⟨j, j1, j2⟩ := hi
  have hz : (zeroValue t).run P w = .ok z w := by simp [zeroValue, typeInfo, h1, h2]
  have hs : (sizeOf e).run P w = .ok 1 w := by simp [sizeOf, typeInfo, j1, j2]
  have hg := fill_mono _ (fun i => some (i * 1, 1)) (fun i p hp => by
    match i, hp with
    | 0, hp => cases hp; rfl
    | 1, hp => cases hp; rfl
    | k + 2, hp => cases hp) _ _ _ hf
  simp only [Instr.build, Sem.run_bind, hz, Result.andThen_ok, run_underlying h3, hs, hg]
  rfl

theorem run_part_int {T : TypeId} {k : IntKind} (h : P.underlying T = some (.int k)) {cs : Array Value} {o : Nat} {v : Value} (hv : cs[o]? = some v) (w : World) : (part T cs o).run P w = .ok v w := by
  simp [part, isAgg, run_underlying h, hv]

theorem pts_run {t : TypeId} {f0 f1 : Field} (h : P.underlying t = some (.struct #[f0, f1])) (h0 : f0.offset = 0 ∧ f0.name ≠ "_" ∧ P.underlying f0.type = some (.int .i64)) (h1 : f1.offset = 1 ∧ f1.name ≠ "_" ∧ P.underlying f1.type = some (.int .i64))
    (hs : P.stoodInHeld t = false) (hg : P.eqGuardType P.depth t = false) (a b c d : Int) (w : World) :
    (Op.equal t (.agg #[.int .i64 a, .int .i64 b]) (.agg #[.int .i64 c, .int .i64 d])).run P w = .ok (decide (a = c ∧ b = d)) w ∧
    ∀ x y op, (eqGuard op t x y (.agg #[.int .i64 a, .int .i64 b]) (.agg #[.int .i64 c, .int .i64 d])).run P w = .ok () w := by
  obtain ⟨h01, h02, h03⟩ := h0
  obtain ⟨h11, h12, h13⟩ := h1
  refine ⟨?_, fun x y op => run_eqGuard_agg w op t x y _ _ hg⟩
  have hf : P.fieldsOf t = #[f0, f1] := by simp [Program.fieldsOf, h]
  have := run_equalIn_struct (P := P) w 9999 t #[.int .i64 a, .int .i64 b] #[.int .i64 c, .int .i64 d] (by rw [hf]; exact h) hs
  unfold Op.equal Op.maxDepth
  rw [this, hf]
  have e0 : ∀ x y : Int, (Op.equalIn 9999 f0.type (.int .i64 x) (.int .i64 y)).run P w = .ok (x == y) w := fun x y => run_equalIn_int (P := P) w 9998 f0.type .i64 .i64 x y h03
  have e1 : ∀ x y : Int, (Op.equalIn 9999 f1.type (.int .i64 x) (.int .i64 y)).run P w = .ok (x == y) w := fun x y => run_equalIn_int (P := P) w 9998 f1.type .i64 .i64 x y h13
  simp only [Op.eqFields, h02, h12, ne_eq, not_false_eq_true, if_true, h01, h11, Sem.run_bind, run_part_int (P := P) h03 (o := 0) (cs := #[.int .i64 a, .int .i64 b]) rfl, run_part_int (P := P) h03 (o := 0) (cs := #[.int .i64 c, .int .i64 d]) rfl,
    run_part_int (P := P) h13 (o := 1) (cs := #[.int .i64 a, .int .i64 b]) rfl, run_part_int (P := P) h13 (o := 1) (cs := #[.int .i64 c, .int .i64 d]) rfl, Result.andThen_ok, e0, e1]
  by_cases h5 : a = c
  · subst h5
    have g1 := run_part_int (P := P) h13 (o := 1) (cs := #[.int .i64 a, .int .i64 b]) rfl w
    have g2 := run_part_int (P := P) h13 (o := 1) (cs := #[.int .i64 a, .int .i64 d]) rfl w
    by_cases h6 : b = d
    · subst h6; simp [Op.eqFields, e0, e1, g1]
    · simp [h6, e0, e1, g1, g2]
  · simp [h5, e0]

theorem checkKey_arr {t e : TypeId} (hu : P.underlying t = some (.array 2 e)) (he : P.underlying e = some (.int .i64)) (hi : ∃ i, P.info? e = some i ∧ i.size = 1) (a b : Int) (em : Bool) (w : World) :
    (Instr.checkKey em 10000 t (.agg #[.int .i64 a, .int .i64 b])).run P w = .ok () w := by
  obtain ⟨i, h1, h2⟩ := hi
  have p0 := run_part_int (P := P) he (o := 0) (cs := #[.int .i64 a, .int .i64 b]) rfl w
  have p1 := run_part_int (P := P) he (o := 1) (cs := #[.int .i64 a, .int .i64 b]) rfl w
  have k0 : (Instr.checkKey em 9999 e (.int .i64 a)).run P w = .ok () w := MapKept.run_checkKey he (by simp [MapKept.IsKey]) em 9998
  have k1 : (Instr.checkKey em 9999 e (.int .i64 b)).run P w = .ok () w := MapKept.run_checkKey he (by simp [MapKept.IsKey]) em 9998
  rw [show (10000 : Nat) = 9999 + 1 from rfl, Instr.checkKey]
  simp only [Sem.run_bind, run_underlying hu, Result.andThen_ok]
  simp only [Std.Legacy.Range.forIn_eq_forIn_range', Std.Legacy.Range.size]
  simp [List.range', run_sizeOf h1, h2, p0, p1, k0, k1]
theorem equal_arr {t e : TypeId} (hu : P.underlying t = some (.array 2 e)) (he : P.underlying e = some (.int .i64)) (hi : ∃ i, P.info? e = some i ∧ i.size = 1) (a b c d : Int) (w : World) :
    (Op.equal t (.agg #[.int .i64 a, .int .i64 b]) (.agg #[.int .i64 c, .int .i64 d])).run P w = .ok (decide (a = c ∧ b = d)) w := by
  obtain ⟨i, h1, h2⟩ := hi
  have hc : P.cellsOf e = 1 := by simp [Program.cellsOf, h1, h2]
  have := run_equalIn_array (P := P) (w := w) 9999 #[.int .i64 a, .int .i64 b] #[.int .i64 c, .int .i64 d] hu h1
  unfold Op.equal Op.maxDepth
  rw [this, hc]
  have e0 : ∀ x y : Int, (Op.equalIn 9999 e (.int .i64 x) (.int .i64 y)).run P w = .ok (x == y) w := fun x y => run_equalIn_int (P := P) w 9998 e .i64 .i64 x y he
  have g0 := fun (x y : Int) => run_part_int (P := P) he (o := 0) (cs := #[.int .i64 x, .int .i64 y]) rfl w
  have g1 := fun (x y : Int) => run_part_int (P := P) he (o := 1) (cs := #[.int .i64 x, .int .i64 y]) rfl w
  have hr : List.range 2 = [0, 1] := rfl
  rw [hr]
  by_cases h5 : a = c
  · subst h5
    by_cases h6 : b = d
    · subst h6; simp [Op.eqItems, e0, g0, g1]
    · simp [Op.eqItems, e0, g0, g1, h6]
  · simp [Op.eqItems, e0, g0, g1, h5]
theorem keyLaw_arr {t e : TypeId} (hu : P.underlying t = some (.array 2 e)) (he : P.underlying e = some (.int .i64)) (hi : ∃ i, P.info? e = some i ∧ i.size = 1) : KeyLaw P .pt t :=
  keyLaw_pt hu trivial (fun a b w em => checkKey_arr hu he hi a b em w) (fun a b c d w => equal_arr hu he hi a b c d w)
theorem keyLaw_pts {t : TypeId} {f0 f1 : Field} (h : P.underlying t = some (.struct #[f0, f1])) (h0 : f0.offset = 0 ∧ f0.name ≠ "_" ∧ P.underlying f0.type = some (.int .i64)) (h1 : f1.offset = 1 ∧ f1.name ≠ "_" ∧ P.underlying f1.type = some (.int .i64))
    (hs : P.stoodInHeld t = false) (hg : P.eqGuardType P.depth t = false) : KeyLaw P .pt t := by
  refine keyLaw_pt h trivial (fun a b w em => ?_) (fun a b c d w => (pts_run h h0 h1 hs hg a b c d w).1)
  obtain ⟨h01, h02, h03⟩ := h0
  obtain ⟨h11, h12, h13⟩ := h1
  have p0 := run_part_int (P := P) h03 (o := 0) (cs := #[.int .i64 a, .int .i64 b]) rfl w
  have p1 := run_part_int (P := P) h13 (o := 1) (cs := #[.int .i64 a, .int .i64 b]) rfl w
  have k0 : (Instr.checkKey em 9999 f0.type (.int .i64 a)).run P w = .ok () w := MapKept.run_checkKey h03 (by simp [MapKept.IsKey]) em 9998
  have k1 : (Instr.checkKey em 9999 f1.type (.int .i64 b)).run P w = .ok () w := MapKept.run_checkKey h13 (by simp [MapKept.IsKey]) em 9998
  rw [show (10000 : Nat) = 9999 + 1 from rfl, Instr.checkKey]
  simp only [Sem.run_bind, run_underlying h, Result.andThen_ok]
  simp [h01, h02, h11, h12, p0, p1, k0, k1]
end Go.Eng

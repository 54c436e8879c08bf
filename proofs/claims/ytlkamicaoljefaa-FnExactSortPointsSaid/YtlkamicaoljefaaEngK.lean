/- The engine, part K: two facts on struct types. -/
import Derived.Test.YtlkamicaoljefaaEngJ
set_option linter.unusedSimpArgs false
set_option linter.unusedVariables false
namespace Go.Eng
variable {P : Program}

theorem build_run {t : TypeId} {i : TypeInfo} {z : Value} {fs : Array Field} {l : List (Nat × Nat)} (h1 : P.info? t = some i) (h2 : i.zero = some z) (h3 : P.underlying t = some (.struct fs))
    (h4 : ∀ w, (fs.mapM (m := Sem) fun f => do pure (f.offset, ← sizeOf f.type)).run P w = .ok l.toArray w) {parts : Array (Nat × Value)} (w : World) :
    (Instr.build t parts).run P w = match Instr.fill (fun k => l[k]?) z.cells parts.toList with | some cells => .ok (.agg cells) w | none => .halt (.stuck "build: no such field, or a part of the wrong size") w := by
  have hz : (zeroValue t).run P w = .ok z w := by simp [zeroValue, typeInfo, h1, h2]
  simp only [Instr.build, Sem.run_bind, hz, Result.andThen_ok, run_underlying h3, h4, List.getElem?_toArray]
  cases Instr.fill (fun k => l[k]?) z.cells parts.toList <;> rfl

theorem run_part_int {T : TypeId} {k : IntKind} (h : P.underlying T = some (.int k)) {cs : Array Value} {o : Nat} {v : Value} (hv : cs[o]? = some v) (w : World) : (part T cs o).run P w = .ok v w := by
  simp [part, isAgg, run_underlying h, hv]

theorem pts_run {t : TypeId} {f0 f1 : Field} (h : P.underlying t = some (.struct #[f0, f1])) (h0 : f0.offset = 0 ∧ f0.name ≠ "_" ∧ P.underlying f0.type = some (.int .i64)) (h1 : f1.offset = 1 ∧ f1.name ≠ "_" ∧ P.underlying f1.type = some (.int .i64))
    (hs : P.stoodInHeld t = false) (hg : P.eqGuardType P.depth t = false) (a b c d : Int) (w : World) :
    (Op.equal t (.agg #[.int .i64 a, .int .i64 b]) (.agg #[.int .i64 c, .int .i64 d])).run P w = .ok (decide (a = c ∧ b = d)) w ∧
    ∀ x y op, (eqGuard op t x y (.agg #[.int .i64 a, .int .i64 b]) (.agg #[.int .i64 c, .int .i64 d])).run P w = .ok () w := by
  obtain ⟨h01, h02, h03⟩ := h0
  obtain ⟨h11, h12, h13⟩ := h1
  refine ⟨?_, fun x y op => run_eqGuard_agg w op t x y _ _ hg⟩
  have hf : P.fieldsOf t = #[f0, f1] := by simp [Program.fieldsOf, h]
  have := run_equalIn_struct (P := P) w 9999 t #[.int .i64 a, .int .i64 b] #[.int .i64 c, .int .i64 d] (by rw [hf]; exact h) hs
  unfold Op.equal Op.maxDepth
  rw [this, hf]
  have e0 : ∀ x y : Int, (Op.equalIn 9999 f0.type (.int .i64 x) (.int .i64 y)).run P w = .ok (x == y) w := fun x y => run_equalIn_int (P := P) w 9998 f0.type .i64 .i64 x y h03
  have e1 : ∀ x y : Int, (Op.equalIn 9999 f1.type (.int .i64 x) (.int .i64 y)).run P w = .ok (x == y) w := fun x y => run_equalIn_int (P := P) w 9998 f1.type .i64 .i64 x y h13
  simp only [Op.eqFields, h02, h12, ne_eq, not_false_eq_true, if_true, h01, h11, Sem.run_bind, run_part_int (P := P) h03 (o := 0) (cs := #[.int .i64 a, .int .i64 b]) rfl, run_part_int (P := P) h03 (o := 0) (cs := #[.int .i64 c, .int .i64 d]) rfl,
    run_part_int (P := P) h13 (o := 1) (cs := #[.int .i64 a, .int .i64 b]) rfl, run_part_int (P := P) h13 (o := 1) (cs := #[.int .i64 c, .int .i64 d]) rfl, Result.andThen_ok, e0, e1]
  by_cases h5 : a = c
  · subst h5
    have g1 := run_part_int (P := P) h13 (o := 1) (cs := #[.int .i64 a, .int .i64 b]) rfl w
    have g2 := run_part_int (P := P) h13 (o := 1) (cs := #[.int .i64 a, .int .i64 d]) rfl w
    by_cases h6 : b = d
    · subst h6; simp [Op.eqFields, e0, e1, g1]
    · simp [h6, e0, e1, g1, g2]
  · simp [h5, e0]
end Go.Eng

/- Texts of this seat that the law stands on, put together. No conditions. -/
import Derived.ChangeKeysEq
import Derived.Test.YtkblikjpdnakiaaT3
section
set_option linter.unusedSimpArgs false
set_option linter.unusedVariables false
namespace Go.Eng
variable {P : Program}
theorem build_run {t : TypeId} {i : TypeInfo} {z : Value} {fs : Array Field} {l : List (Nat × Nat)} (h1 : P.info? t = some i) (h2 : i.zero = some z) (h3 : P.underlying t = some (.struct fs))
    (h4 : ∀ w, (fs.mapM (m := Sem) fun f => do pure (f.offset, ← sizeOf f.type)).run P w = .ok l.toArray w) {parts : Array (Nat × Value)} (w : World) :
    ∀ cells, Instr.fill (fun k => l[k]?) z.cells parts.toList = some cells → (Instr.build t parts).run P w = .ok (.agg cells) w := by
  intro cells hf
  have hz : (zeroValue t).run P w = .ok z w := by simp [zeroValue, typeInfo, h1, h2]
  simp only [Instr.build, Sem.run_bind, hz, Result.andThen_ok, run_underlying h3, h4, List.getElem?_toArray, hf]
  rfl
theorem fill_mono (f g : Nat → Option (Nat × Nat)) (h : ∀ i p, f i = some p → g i = some p) : ∀ (ps : List (Nat × Value)) (cells out : Array Value), Instr.fill f cells ps = some out → Instr.fill g cells ps = some out
  | [], cells, out, hf => hf
  | (i, v) :: r, cells, out, hf => by
    unfold Instr.fill at hf ⊢
    cases e : f i with
    | none => rw [e] at hf; cases hf
    | some p =>
      obtain ⟨o, s⟩ := p
      rw [e] at hf; rw [h i _ e]
      simp only at hf ⊢
      split at hf
      · cases hf
      · rename_i hc
        rw [if_neg hc]
        exact fill_mono f g h r _ _ hf
/-- An array of two, built. -/
theorem build_arr {t e : TypeId} {i : TypeInfo} {z : Value} (h1 : P.info? t = some i) (h2 : i.zero = some z) (h3 : P.underlying t = some (.array 2 e)) (hi : ∃ j, P.info? e = some j ∧ j.size = 1) {parts : Array (Nat × Value)} (w : World) :
    ∀ cells, Instr.fill (fun k => [((0 : Nat), (1 : Nat)), (1, 1)][k]?) z.cells parts.toList = some cells → (Instr.build t parts).run P w = .ok (.agg cells) w := by
  intro cells hf
  obtain ⟨j, j1, j2⟩ := hi
  have hz : (zeroValue t).run P w = .ok z w := by simp [zeroValue, typeInfo, h1, h2]
  have hs : (sizeOf e).run P w = .ok 1 w := by simp [sizeOf, typeInfo, j1, j2]
  have hg := fill_mono _ (fun i => some (i * 1, 1)) (fun i p hp => by
    match i, hp with
    | 0, hp => cases hp; rfl
    | 1, hp => cases hp; rfl
    | k + 2, hp => cases hp) _ _ _ hf
  simp only [Instr.build, Sem.run_bind, hz, Result.andThen_ok, run_underlying h3, hs, hg]
  rfl
theorem run_part_int {T : TypeId} {k : IntKind} (h : P.underlying T = some (.int k)) {cs : Array Value} {o : Nat} {v : Value} (hv : cs[o]? = some v) (w : World) : (part T cs o).run P w = .ok v w := by
  simp [part, isAgg, run_underlying h, hv]
theorem checkKey_arr {t e : TypeId} (hu : P.underlying t = some (.array 2 e)) (he : P.underlying e = some (.int .i64)) (hi : ∃ i, P.info? e = some i ∧ i.size = 1) (a b : Int) (em : Bool) (w : World) :
    (Instr.checkKey em 10000 t (.agg #[.int .i64 a, .int .i64 b])).run P w = .ok () w := by
  obtain ⟨i, h1, h2⟩ := hi
  have p0 := run_part_int (P := P) he (o := 0) (cs := #[.int .i64 a, .int .i64 b]) rfl w
  have p1 := run_part_int (P := P) he (o := 1) (cs := #[.int .i64 a, .int .i64 b]) rfl w
  have k0 : (Instr.checkKey em 9999 e (.int .i64 a)).run P w = .ok () w := MapKept.run_checkKey he (by simp [MapKept.IsKey]) em 9998
  have k1 : (Instr.checkKey em 9999 e (.int .i64 b)).run P w = .ok () w := MapKept.run_checkKey he (by simp [MapKept.IsKey]) em 9998
  rw [show (10000 : Nat) = 9999 + 1 from rfl, Instr.checkKey]
  simp only [Sem.run_bind, run_underlying hu, Result.andThen_ok]
  simp only [Std.Legacy.Range.forIn_eq_forIn_range', Std.Legacy.Range.size]
  simp [List.range', run_sizeOf h1, h2, p0, p1, k0, k1]
theorem equal_arr {t e : TypeId} (hu : P.underlying t = some (.array 2 e)) (he : P.underlying e = some (.int .i64)) (hi : ∃ i, P.info? e = some i ∧ i.size = 1) (a b c d : Int) (w : World) :
    (Op.equal t (.agg #[.int .i64 a, .int .i64 b]) (.agg #[.int .i64 c, .int .i64 d])).run P w = .ok (decide (a = c ∧ b = d)) w := by
  obtain ⟨i, h1, h2⟩ := hi
  have hc : P.cellsOf e = 1 := by simp [Program.cellsOf, h1, h2]
  have := run_equalIn_array (P := P) (w := w) 9999 #[.int .i64 a, .int .i64 b] #[.int .i64 c, .int .i64 d] hu h1
  unfold Op.equal Op.maxDepth
  rw [this, hc]
  have e0 : ∀ x y : Int, (Op.equalIn 9999 e (.int .i64 x) (.int .i64 y)).run P w = .ok (x == y) w := fun x y => run_equalIn_int (P := P) w 9998 e .i64 .i64 x y he
  have g0 := fun (x y : Int) => run_part_int (P := P) he (o := 0) (cs := #[.int .i64 x, .int .i64 y]) rfl w
  have g1 := fun (x y : Int) => run_part_int (P := P) he (o := 1) (cs := #[.int .i64 x, .int .i64 y]) rfl w
  have hr : List.range 2 = [0, 1] := rfl
  rw [hr]
  by_cases h5 : a = c
  · subst h5
    by_cases h6 : b = d
    · subst h6; simp [Op.eqItems, e0, g0, g1]
    · simp [Op.eqItems, e0, g0, g1, h6]
  · simp [Op.eqItems, e0, g0, g1, h5]
theorem keyLaw_arr {t e : TypeId} (hu : P.underlying t = some (.array 2 e)) (he : P.underlying e = some (.int .i64)) (hi : ∃ i, P.info? e = some i ∧ i.size = 1) : KeyLaw P .pt t :=
  keyLaw_pt hu trivial (fun a b w em => checkKey_arr hu he hi a b em w) (fun a b c d w => equal_arr hu he hi a b c d w)
end Go.Eng
end
section
set_option linter.unusedSimpArgs false
set_option linter.unusedVariables false
namespace Go.Eng
variable {P : Program} {E : Env}
/-! ### What an operation looks at decides -/
def lookT (ops : List Oper) (o : Oper) : List Nat :=
  (o.op.operands.toList.filterMap fun | .tmp t => some t | _ => none) ++ (match o.guard with | some (g, _) => ((ops[g]?).bind (·.dst)).toList | none => [])
/-- The temporaries that are looked at, and no others. -/
def onlyS (ts : List Nat) (sl : List (Nat × AVal)) : List (Nat × AVal) := ts.map fun t => (t, lk sl t)
theorem lk_onlyS : ∀ (ts : List Nat) (sl : List (Nat × AVal)) (t : Nat), (t ∈ ts → lk (onlyS ts sl) t = lk sl t) ∧ (t ∉ ts → lk (onlyS ts sl) t = .junk)
  | [], sl, t => ⟨fun h => by simp at h, fun _ => rfl⟩
  | u :: ts, sl, t => by
    have ih := lk_onlyS ts sl t
    show (_ → lk ((u, lk sl u) :: onlyS ts sl) t = _) ∧ (_ → lk ((u, lk sl u) :: onlyS ts sl) t = _)
    rw [lk_put]
    by_cases e : u = t
    · subst e; simp
    · rw [if_neg e]
      refine ⟨fun h => ih.1 ?_, fun h => ih.2 ?_⟩
      · rcases List.mem_cons.1 h with h | h
        · exact absurd h.symm e
        · exact h
      · exact fun h' => h (List.mem_cons_of_mem _ h')
theorem ev_only {N : Nat} {b l : List ABox} {sl : List (Nat × AVal)} {ts : List Nat} {x : Operand} (h : ∀ t, x = .tmp t → t ∈ ts) : (⟨N, onlyS ts sl, b, l⟩ : St).ev x = (⟨N, sl, b, l⟩ : St).ev x := by
  cases x with
  | tmp t => exact (lk_onlyS ts sl t).1 (h t rfl)
  | _ => rfl
theorem vcOp_congr {N : Nat} {b l : List ABox} {s s' : List (Nat × AVal)} {op : Op} {k : AVal → List ABox → List ABox → Prop}
    (h : ∀ x ∈ op.operands, (⟨N, s', b, l⟩ : St).ev x = (⟨N, s, b, l⟩ : St).ev x) (hk : vcOp P E op ⟨N, s, b, l⟩ k) : vcOp P E op ⟨N, s', b, l⟩ k := by
  cases op <;> simp only [Op.operands, Array.mem_def] at h <;> simp only [vcOp] at hk ⊢
  case move x => rw [h x (by simp)]; exact hk
  case assign x => rw [h x (by simp)]; exact hk
  case pick c a b' => rw [h c (by simp), h a (by simp), h b' (by simp)]; exact hk
  case alloc => exact hk
  case box T x => rw [h x (by simp)]; exact hk
  case build T ps =>
    have : partsA ⟨N, s', b, l⟩ ps.toList = partsA ⟨N, s, b, l⟩ ps.toList := by
      unfold partsA
      refine List.map_congr_left fun p hp => ?_
      rw [h p.2 (by simp only [List.mem_map]; exact ⟨p, hp, rfl⟩)]
    rw [this]; exact hk
  case buildSlice T n ps =>
    have : partsA ⟨N, s', b, l⟩ ps.toList = partsA ⟨N, s, b, l⟩ ps.toList := by
      unfold partsA
      refine List.map_congr_left fun p hp => ?_
      rw [h p.2 (by simp only [List.mem_map]; exact ⟨p, hp, rfl⟩)]
    rw [this]; exact hk
  case load T x => rw [h x (by simp)]; exact hk
  case store T x y => rw [h x (by simp), h y (by simp)]; exact hk
  case nilCheck x => rw [h x (by simp)]; exact hk
  case binOp op T x y _ => rw [h x (by simp), h y (by simp)]; exact hk
  case unOp op T x => rw [h x (by simp)]; exact hk
  case convert a d x => rw [h x (by simp)]; exact hk
  case makeFunc fn first cap =>
    cases fn with
    | func f =>
      simp only at hk ⊢
      have : cap.toList.map (⟨N, s', b, l⟩ : St).ev = cap.toList.map (⟨N, s, b, l⟩ : St).ev := List.map_congr_left fun x hx => h x (by simp [hx])
      rw [this]; exact hk
    | _ => exact hk.elim
  case makeSlice T x y => rw [h x (by simp), h y (by simp)]; exact hk
  case slice T x lo hi mx =>
    cases mx with
    | some _ => exact hk.elim
    | none =>
      simp only at hk ⊢
      have h1 : lo.map (⟨N, s', b, l⟩ : St).ev = lo.map (⟨N, s, b, l⟩ : St).ev := by cases lo with
        | none => rfl
        | some o => simp only [Option.map_some]; rw [h o (by simp)]
      have h2 : hi.map (⟨N, s', b, l⟩ : St).ev = hi.map (⟨N, s, b, l⟩ : St).ev := by cases hi with
        | none => rfl
        | some o => simp only [Option.map_some]; rw [h o (by simp)]
      rw [h x (by simp), h1, h2]; exact hk
  case fieldAddr T x f => rw [h x (by simp)]; exact hk
  case indexAddr T x i => rw [h x (by simp), h i (by simp)]; exact hk
  case index T x i => rw [h x (by simp), h i (by simp)]; exact hk
  case extract x i => rw [h x (by simp)]; exact hk
  case makeMap T r =>
    cases r with
    | none => exact hk
    | some _ => exact hk.elim
  case lookup T x i ok => rw [h x (by simp), h i (by simp)]; exact hk
  case mapUpdate T x i y => rw [h x (by simp), h i (by simp), h y (by simp)]; exact hk
  case insert T x i y => rw [h x (by simp), h i (by simp), h y (by simp)]; exact hk
  case mapEntry T x i => rw [h x (by simp), h i (by simp)]; exact hk
  case entryStore T x i y => rw [h x (by simp), h i (by simp), h y (by simp)]; exact hk
  case range T x => rw [h x (by simp)]; exact hk
  case next x b =>
    cases b with
    | false => simp only at hk ⊢; rw [h x (by simp)]; exact hk
    | true => exact hk.elim
  case entry x => rw [h x (by simp)]; exact hk
  case call c =>
    obtain ⟨callee, args, ts⟩ := c
    have hargs : args.toList.map (⟨N, s', b, l⟩ : St).ev = args.toList.map (⟨N, s, b, l⟩ : St).ev := List.map_congr_left fun x hx => h x (by simp [Call.operands, hx])
    cases callee with
    | invoke r m => simp [vcCall] at hk
    | value f =>
      have hf := h f (by simp [Call.operands])
      show vCall P ((⟨N, s', b, l⟩ : St).ev f) (args.toList.map (⟨N, s', b, l⟩ : St).ev) ⟨N, s', b, l⟩ k
      rw [hf, hargs]; exact hk
    | builtin bb =>
      rcases hA : args.toList with _ | ⟨x, _ | ⟨y, _ | ⟨y2, rest⟩⟩⟩
      · cases bb <;> simp [vcCall, hA] at hk
      · have hx := h x (by simp [Call.operands, hA])
        cases bb <;> simp only [vcCall, hA] at hk ⊢
        case len => rcases hT : ts.toList with _ | ⟨T, _ | ⟨T', rest⟩⟩ <;> simp only [hT] at hk ⊢; rw [hx]; exact hk
      · have hx := h x (by simp [Call.operands, hA])
        have hy := h y (by simp [Call.operands, hA])
        cases bb <;> simp only [vcCall, hA] at hk ⊢
        case append => rcases hT : ts.toList with _ | ⟨T, _ | ⟨T', _ | ⟨T2, rest⟩⟩⟩ <;> simp only [hT] at hk ⊢; rw [hx, hy]; exact hk
        case copy => rcases hT : ts.toList with _ | ⟨T, _ | ⟨T', _ | ⟨T2, rest⟩⟩⟩ <;> simp only [hT] at hk ⊢; rw [hx, hy]; exact hk
        case max => rw [hx, hy]; exact hk
        case min => rw [hx, hy]; exact hk
      · cases bb <;> simp [vcCall, hA] at hk
end Go.Eng
end
section
set_option linter.unusedSimpArgs false
set_option linter.unusedVariables false
namespace Go.Eng
variable {P : Program} {E : Env}
def deps (o : Oper) : List Nat := (o.after.toList.filter (fun e => Region.binds .any e)).map (·.on)
def masks : List Oper → List Nat → List Nat
  | [], acc => acc
  | o :: r, acc => masks r (acc ++ [(deps o).foldl (fun s j => s ||| 2 ^ j ||| acc.getD j 0) 0])
inductive Reach (ops : List Oper) : Nat → Nat → Prop where
  | one {i j : Nat} {o : Oper} (h : ops[i]? = some o) (hj : j ∈ deps o) : Reach ops i j
  | step {i k j : Nat} {o : Oper} (h : ops[i]? = some o) (hk : k ∈ deps o) (hr : Reach ops k j) : Reach ops i j
theorem fold_bit (acc : List Nat) (j : Nat) : ∀ (l : List Nat) (s : Nat), (l.foldl (fun s j => s ||| 2 ^ j ||| acc.getD j 0) s).testBit j = true → s.testBit j = true ∨ ∃ k ∈ l, j = k ∨ (acc.getD k 0).testBit j = true
  | [], s, h => .inl h
  | k :: l, s, h => by
    rcases fold_bit acc j l _ h with h1 | ⟨q, hq, h2⟩
    · simp only [Nat.testBit_or, Bool.or_eq_true] at h1
      rcases h1 with (h1 | h1) | h1
      · exact .inl h1
      · rw [Nat.testBit_two_pow] at h1
        exact .inr ⟨k, by simp, .inl (by simpa [eq_comm] using h1)⟩
      · exact .inr ⟨k, by simp, .inr h1⟩
    · exact .inr ⟨q, by simp [hq], h2⟩
theorem masks_reach (ops : List Oper) : ∀ (rest : List Oper) (acc : List Nat), (∀ k, rest[k]? = ops[acc.length + k]?) → (∀ i j, (acc.getD i 0).testBit j = true → Reach ops i j) →
    ∀ i j, ((masks rest acc).getD i 0).testBit j = true → Reach ops i j
  | [], acc, _, ha => ha
  | o :: r, acc, hr, ha => by
    refine masks_reach ops r _ (fun k => ?_) ?_
    · have := hr (k + 1)
      simp at this ⊢
      rw [this]; congr 1; omega
    · intro i j h
      have ho : ops[acc.length]? = some o := by have := hr 0; simpa using this.symm
      rcases Nat.lt_or_ge i acc.length with h1 | h1
      · refine ha i j ?_
        simp only [List.getD] at h ⊢
        rwa [List.getElem?_append_left h1] at h
      · simp only [List.getD] at h
        rw [List.getElem?_append_right h1] at h
        rcases Nat.lt_or_ge (i - acc.length) 1 with h2 | h2
        · have e : i = acc.length := by omega
          subst e
          simp at h
          rcases fold_bit acc j _ _ (by simpa [List.getD] using h) with h3 | ⟨k, hk, rfl | h3⟩
          · simp at h3
          · exact .one ho hk
          · exact .step ho hk (ha k j h3)
        · have : ([(deps o).foldl (fun s j => s ||| 2 ^ j ||| acc.getD j 0) 0])[i - acc.length]? = none := List.getElem?_eq_none (by simpa using h2)
          simp only [List.getD] at this
          rw [this] at h
          simp at h
def effI (info : List (Bool × Nat × Nat)) (i : Nat) : Bool := (info.getD i (false, 0, 0)).1
def loI (info : List (Bool × Nat × Nat)) (i : Nat) : Nat := (info.getD i (false, 0, 0)).2.1
def hiI (info : List (Bool × Nat × Nat)) (i : Nat) : Nat := (info.getD i (false, 0, 0)).2.2
def cntE (info : List (Bool × Nat × Nat)) : Nat → Nat
  | 0 => 0
  | i + 1 => cntE info i + if effI info i then 1 else 0
/-- WHAT IS LOOKED AT IN THE TEXT OF A REGION: what waits for what; that no temporary is written twice, and that whoever looks at one that is written stands in an order with the writer. -/
def drawChk (ops : List Oper) (info : List (Bool × Nat × Nat)) : Bool :=
  let ms := masks ops []
  let n := ops.length
  let anc (i j : Nat) : Bool := (ms.getD i 0).testBit j
  let is := List.range n
  is.all fun i =>
    match ops[i]? with
    | none => true
    | some o =>
      (deps o).all (fun j => decide (j < i)) && (match o.op with | .select .. => false | _ => true) &&
      (is.all fun j => j == i ||
        match ops[j]?, o.dst with
        | some oj, some t => oj.dst != some t && (!(lookT ops oj).contains t || (if i < j then anc j i else anc i j))
        | _, _ => true) &&
      (if effI info i then is.all (fun j => !(decide (j < i) && effI info j) || anc i j)
       else (loI info i == 0 || is.any (fun j => effI info j && anc i j && decide (loI info i ≤ cntE info j + 1))) &&
         (decide (cntE info n ≤ hiI info i) || is.any (fun j => effI info j && anc j i && decide (cntE info j ≤ hiI info i))))
structure DrawOk (ops : List Oper) (info : List (Bool × Nat × Nat)) : Prop where
  deps : ∀ (i : Nat) (o : Oper) (j : Nat), ops[i]? = some o → j ∈ deps o → j < i
  sel : ∀ (i : Nat) (o : Oper) cs b, ops[i]? = some o → o.op ≠ .select cs b
  dst : ∀ (i j : Nat) (o oj : Oper) (t : Nat), ops[i]? = some o → ops[j]? = some oj → i ≠ j → o.dst = some t → oj.dst ≠ some t
  look : ∀ (i j : Nat) (o oj : Oper) (t : Nat), ops[i]? = some o → ops[j]? = some oj → i ≠ j → o.dst = some t → t ∈ lookT ops oj → (i < j → Reach ops j i) ∧ (j < i → Reach ops i j)
  chain : ∀ i j, i < ops.length → effI info i = true → j < i → effI info j = true → Reach ops i j
  lo : ∀ i, i < ops.length → effI info i = false → loI info i = 0 ∨ ∃ j, j < ops.length ∧ effI info j = true ∧ Reach ops i j ∧ loI info i ≤ cntE info j + 1
  hi : ∀ i, i < ops.length → effI info i = false → cntE info ops.length ≤ hiI info i ∨ ∃ j, j < ops.length ∧ effI info j = true ∧ Reach ops j i ∧ cntE info j ≤ hiI info i
theorem drawChk_ok {ops : List Oper} {info : List (Bool × Nat × Nat)} (h : drawChk ops info = true) : DrawOk ops info := by
  unfold drawChk at h
  have hm : ∀ i j, ((masks ops []).getD i 0).testBit j = true → Reach ops i j := masks_reach ops ops [] (by simp) (fun i j h => by simp at h)
  have key : ∀ i o, ops[i]? = some o → _ := fun i o ho => by
    have hi : i < ops.length := (List.getElem?_eq_some_iff.1 ho).1
    have h1 := List.all_eq_true.1 h i (List.mem_range.2 hi)
    rw [ho] at h1
    simp only [Bool.and_eq_true] at h1
    exact h1
  have ex : ∀ i, i < ops.length → ∃ o, ops[i]? = some o := fun i hi => ⟨_, List.getElem?_eq_getElem hi⟩
  refine ⟨fun i o j ho hj => ?_, fun i o cs b ho he => ?_, fun i j o oj t ho hoj hne hd => ?_, fun i j o oj t ho hoj hne hd hl => ?_, fun i j hi he hj hej => ?_, fun i hi he => ?_, fun i hi he => ?_⟩
  · have := List.all_eq_true.1 (key i o ho).1.1.1 j hj
    simpa using this
  · have := (key i o ho).1.1.2
    rw [he] at this; cases this
  · have h2 := List.all_eq_true.1 (key i o ho).1.2 j (List.mem_range.2 (List.getElem?_eq_some_iff.1 hoj).1)
    have hji : (j == i) = false := by simpa using Ne.symm hne
    rw [hji, hoj, hd] at h2
    simp only [Bool.false_or, Bool.and_eq_true] at h2
    simpa using h2.1
  · have h2 := List.all_eq_true.1 (key i o ho).1.2 j (List.mem_range.2 (List.getElem?_eq_some_iff.1 hoj).1)
    have hji : (j == i) = false := by simpa using Ne.symm hne
    rw [hji, hoj, hd] at h2
    simp only [Bool.false_or, Bool.and_eq_true] at h2
    have hc : (lookT ops oj).contains t = true := by simpa using hl
    have h3 := h2.2
    rw [hc] at h3
    simp only [Bool.not_true, Bool.false_or] at h3
    by_cases hij : i < j
    · rw [if_pos hij] at h3; exact ⟨fun _ => hm _ _ h3, fun h => absurd h (by omega)⟩
    · rw [if_neg hij] at h3; exact ⟨fun h => absurd h hij, fun _ => hm _ _ h3⟩
  · obtain ⟨o, ho⟩ := ex i hi
    have h2 := (key i o ho).2
    rw [if_pos he] at h2
    have h3 := List.all_eq_true.1 h2 j (List.mem_range.2 (by omega))
    simp only [hej, Bool.and_true, hj, decide_true, Bool.not_true, Bool.false_or] at h3
    exact hm _ _ h3
  · obtain ⟨o, ho⟩ := ex i hi
    have h2 := (key i o ho).2
    rw [if_neg (by rw [he]; exact Bool.false_ne_true)] at h2
    simp only [Bool.and_eq_true, Bool.or_eq_true] at h2
    rcases h2.1 with h3 | h3
    · exact .inl (by simpa using h3)
    · obtain ⟨j, hj, h4⟩ := List.any_eq_true.1 h3
      simp only [Bool.and_eq_true] at h4
      exact .inr ⟨j, List.mem_range.1 hj, h4.1.1, hm _ _ h4.1.2, by simpa using h4.2⟩
  · obtain ⟨o, ho⟩ := ex i hi
    have h2 := (key i o ho).2
    rw [if_neg (by rw [he]; exact Bool.false_ne_true)] at h2
    simp only [Bool.and_eq_true, Bool.or_eq_true] at h2
    rcases h2.2 with h3 | h3
    · exact .inl (by simpa using h3)
    · obtain ⟨j, hj, h4⟩ := List.any_eq_true.1 h3
      simp only [Bool.and_eq_true] at h4
      exact .inr ⟨j, List.mem_range.1 hj, h4.1.1, hm _ _ h4.1.2, by simpa using h4.2⟩
def OpOK (P : Program) (E : Env) (op : Op) (st : St) (r : AVal) (h : List ABox × List ABox) : Prop := vcOp P E op st (fun r' b' l' => r' = r ∧ b' = h.1 ∧ l' = h.2)
/-- Does the guard let the operation run? -/
def guardIs (ops : List Oper) (g : Option (Nat × Bool)) (N : Nat) (sl : List (Nat × AVal)) (run : Bool) : Prop :=
  match g with
  | none => run = true
  | some (j, want) => ∃ t, (ops[j]?).bind (·.dst) = some t ∧ t < N ∧ ((∃ b, lk sl t = .v (.bool b) ∧ run = (b == want)) ∨ (∃ vs, lk sl t = .v (.tuple vs)) ∧ run = false)
/-- The temporaries in the text's order. -/
def lexSl (ops : List Oper) (R : Nat → AVal) (sl : List (Nat × AVal)) : Nat → List (Nat × AVal)
  | 0 => sl
  | k + 1 => match (ops[k]?).bind (·.dst) with
    | none => lexSl ops R sl k
    | some t => (t, R k) :: lexSl ops R sl k
def writer (ops : List Oper) (t : Nat) : Option Nat := ops.findIdx? (fun o => o.dst == some t)
theorem writer_some {ops : List Oper} {t j : Nat} (h : writer ops t = some j) : ∃ o, ops[j]? = some o ∧ o.dst = some t := by
  obtain ⟨hlt, h1, _⟩ := List.findIdx?_eq_some_iff_getElem.1 h
  exact ⟨_, List.getElem?_eq_getElem hlt, by simpa using h1⟩
theorem writer_none {ops : List Oper} {t : Nat} (h : writer ops t = none) (j : Nat) (o : Oper) (ho : ops[j]? = some o) : o.dst ≠ some t := by
  have := List.findIdx?_eq_none_iff.1 h o (List.mem_of_getElem? ho)
  simpa using this
theorem writer_of {ops : List Oper} {info : List (Bool × Nat × Nat)} (hD : DrawOk ops info) {t j : Nat} {o : Oper} (ho : ops[j]? = some o) (hd : o.dst = some t) : writer ops t = some j := by
  cases h : writer ops t with
  | none => exact absurd hd (writer_none h j o ho)
  | some i =>
    obtain ⟨o', ho', hd'⟩ := writer_some h
    by_cases e : i = j
    · rw [e]
    · exact absurd hd (hD.dst i j o' o t ho' ho e hd')
theorem lk_lexSl {ops : List Oper} {info : List (Bool × Nat × Nat)} (hD : DrawOk ops info) (R : Nat → AVal) (sl : List (Nat × AVal)) (t : Nat) : ∀ k,
    lk (lexSl ops R sl k) t = match writer ops t with | some j => if j < k then R j else lk sl t | none => lk sl t
  | 0 => by cases h : writer ops t <;> simp [lexSl]
  | k + 1 => by
    have ih := lk_lexSl hD R sl t k
    cases hk : (ops[k]?).bind (·.dst) with
    | none =>
      simp only [lexSl, hk]
      rw [ih]
      cases hw : writer ops t with
      | none => rfl
      | some j =>
        obtain ⟨o, ho, hd⟩ := writer_some hw
        have hne : j ≠ k := fun e => by subst e; rw [ho] at hk; simp [hd] at hk
        show (if j < k then R j else lk sl t) = if j < k + 1 then R j else lk sl t
        by_cases h1 : j < k
        · rw [if_pos h1, if_pos (by omega)]
        · rw [if_neg h1, if_neg (by omega)]
    | some u =>
      simp only [lexSl, hk]
      rw [lk_put]
      obtain ⟨o, ho, hd⟩ := Option.bind_eq_some_iff.1 hk
      by_cases e : u = t
      · subst e
        rw [if_pos rfl, writer_of hD ho hd]
        show R k = if k < k + 1 then R k else _
        rw [if_pos (by omega)]
      · rw [if_neg e, ih]
        cases hw : writer ops t with
        | none => rfl
        | some j =>
          obtain ⟨o', ho', hd'⟩ := writer_some hw
          have hne : j ≠ k := fun e' => by
            subst e'
            rw [ho] at ho'; cases ho'
            rw [hd] at hd'; cases hd'
            exact e rfl
          show (if j < k then R j else lk sl t) = if j < k + 1 then R j else lk sl t
          by_cases h1 : j < k
          · rw [if_pos h1, if_pos (by omega)]
          · rw [if_neg h1, if_neg (by omega)]
theorem cntE_le {info : List (Bool × Nat × Nat)} {i j : Nat} (h : i ≤ j) : cntE info i ≤ cntE info j := by
  induction h with
  | refl => exact Nat.le_refl _
  | step _ ih => exact Nat.le_trans ih (by simp [cntE])
theorem cntE_lt {info : List (Bool × Nat × Nat)} {i j : Nat} (h : i < j) (he : effI info i = true) : cntE info i < cntE info j :=
  Nat.lt_of_lt_of_le (by simp [cntE, he]) (cntE_le (info := info) h)
/-- What is known while the operations come up one after another, in whatever order. -/
structure DInv (ops : List Oper) (info : List (Bool × Nat × Nat)) (c0 : Ctx) (st : St) (R : Nat → AVal) (Hp : Nat → List ABox × List ABox) (listed : Array Bool) (a : Act) (w : World) : Prop where
  size : listed.size = ops.length
  closed : ∀ (i : Nat) (o : Oper) (j : Nat), ops[i]? = some o → listed.getD i false = true → j ∈ deps o → listed.getD j false = true
  ex : ∃ c m, Ext c0 c ∧ (∀ i, i < ops.length → effI info i = true → (listed.getD i false = true ↔ cntE info i < m)) ∧ m ≤ cntE info ops.length ∧ a.defers = [] ∧ a.tmps.size = st.N ∧
    RelH c ((Hp m).1 ++ (Hp m).2) w ∧ ∀ t, RelV c (match writer ops t with | some j => if listed.getD j false then R j else lk st.slots t | none => lk st.slots t) (a.tmps.getD t undef)
theorem reach_listed {ops : List Oper} {listed : Array Bool} (hc : ∀ (i : Nat) (o : Oper) (j : Nat), ops[i]? = some o → listed.getD i false = true → j ∈ deps o → listed.getD j false = true)
    {i j : Nat} (h : Reach ops i j) : (∀ o, ops[i]? = some o → ∀ k ∈ deps o, listed.getD k false = true) → listed.getD j false = true := by
  induction h with
  | one ho hj => exact fun hd => hd _ ho _ hj
  | @step i k j o ho hk hr ih =>
    intro hd
    have hkl := hd _ ho _ hk
    exact ih fun o' ho' q hq => hc k o' q ho' hkl hq
/-- The text's order: what each operation comes to, at each heap that may stand when it comes up. -/
structure Lex (P : Program) (E : Env) (ops : List Oper) (info : List (Bool × Nat × Nat)) (n : Nat) (st : St) (R : Nat → AVal) (W : Nat → Bool) (Hp : Nat → List ABox × List ABox) : Prop where
  h0 : Hp 0 = (st.base, st.loc)
  hb : ∀ m, m ≤ cntE info ops.length → (Hp m).1.length = n
  dstN : ∀ (i : Nat) (o : Oper), ops[i]? = some o → dstOk st.N o.dst
  guard : ∀ (i : Nat) (o : Oper), ops[i]? = some o → guardIs ops o.guard st.N (lexSl ops R st.slots i) (W i)
  skip : ∀ (i : Nat) (o : Oper), ops[i]? = some o → W i = false → R i = .v undef ∧ (effI info i = true → Hp (cntE info i + 1) = Hp (cntE info i))
  eff : ∀ (i : Nat) (o : Oper), ops[i]? = some o → W i = true → effI info i = true → OpOK P E o.op ⟨st.N, lexSl ops R st.slots i, (Hp (cntE info i)).1, (Hp (cntE info i)).2⟩ (R i) (Hp (cntE info i + 1))
  pure : ∀ (i : Nat) (o : Oper), ops[i]? = some o → W i = true → effI info i = false → ∀ m, loI info i ≤ m → m ≤ hiI info i → m ≤ cntE info ops.length →
    OpOK P E o.op ⟨st.N, lexSl ops R st.slots i, (Hp m).1, (Hp m).2⟩ (R i) (Hp m)
theorem getD_set {l : Array Bool} {i j : Nat} {d : Bool} (hi : i < l.size) : (l.setIfInBounds i true).getD j d = if i = j then true else l.getD j d := by
  by_cases h : i = j
  · subst h; simp [hi]
  · simp [Array.getElem?_setIfInBounds, h]
end Go.Eng
end

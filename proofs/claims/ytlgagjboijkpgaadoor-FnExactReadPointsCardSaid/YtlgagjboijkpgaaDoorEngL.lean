/- The engine, part L: a region that draws its order: the text's order serves for every order. -/
import Derived.Test.YtlgagjboijkpgaaDoorEngK
set_option linter.unusedSimpArgs false
set_option linter.unusedVariables false
namespace Go.Eng
variable {P : Program} {E : Env}

/-! ### What an operation looks at decides -/
def lookT (ops : List Oper) (o : Oper) : List Nat :=
  (o.op.operands.toList.filterMap fun | .tmp t => some t | _ => none) ++ (match o.guard with | some (g, _) => ((ops[g]?).bind (·.dst)).toList | none => [])

/-- The temporaries that are looked at, and no others. -/
def onlyS (ts : List Nat) (sl : List (Nat × AVal)) : List (Nat × AVal) := ts.map fun t => (t, lk sl t)
theorem lk_onlyS : ∀ (ts : List Nat) (sl : List (Nat × AVal)) (t : Nat), (t ∈ ts → lk (onlyS ts sl) t = lk sl t) ∧ (t ∉ ts → lk (onlyS ts sl) t = .junk)
  | [], sl, t => ⟨fun h => by simp at h, fun _ => rfl⟩
  | u :: ts, sl, t => by
    have ih := lk_onlyS ts sl t
    show (_ → lk ((u, lk sl u) :: onlyS ts sl) t = _) ∧ (_ → lk ((u, lk sl u) :: onlyS ts sl) t = _)
    rw [lk_put]
    by_cases e : u = t
    · subst e; simp
    · rw [if_neg e]
      refine ⟨fun h => ih.1 ?_, fun h => ih.2 ?_⟩
      · rcases List.mem_cons.1 h with h | h
        · exact absurd h.symm e
        · exact h
      · exact fun h' => h (List.mem_cons_of_mem _ h')

theorem ev_only {N : Nat} {b l : List ABox} {sl : List (Nat × AVal)} {ts : List Nat} {x : Operand} (h : ∀ t, x = .tmp t → t ∈ ts) : (⟨N, onlyS ts sl, b, l⟩ : St).ev x = (⟨N, sl, b, l⟩ : St).ev x := by
  cases x with
  | tmp t => exact (lk_onlyS ts sl t).1 (h t rfl)
  | _ => rfl

theorem vcOp_congr {N : Nat} {b l : List ABox} {s s' : List (Nat × AVal)} {op : Op} {k : AVal → List ABox → List ABox → Prop}
    (h : ∀ x ∈ op.operands, (⟨N, s', b, l⟩ : St).ev x = (⟨N, s, b, l⟩ : St).ev x) (hk : vcOp P E op ⟨N, s, b, l⟩ k) : vcOp P E op ⟨N, s', b, l⟩ k := by
  cases op <;> simp only [Op.operands, Array.mem_def] at h <;> simp only [vcOp] at hk ⊢
  case move x => rw [h x (by simp)]; exact hk
  case assign x => rw [h x (by simp)]; exact hk
  case pick c a b' => rw [h c (by simp), h a (by simp), h b' (by simp)]; exact hk
  case alloc => exact hk
  case box T x => rw [h x (by simp)]; exact hk
  case build T ps =>
    have : partsA ⟨N, s', b, l⟩ ps.toList = partsA ⟨N, s, b, l⟩ ps.toList := by
      unfold partsA
      refine List.map_congr_left fun p hp => ?_
      rw [h p.2 (by simp only [List.mem_map]; exact ⟨p, hp, rfl⟩)]
    rw [this]; exact hk
  case buildSlice T n ps =>
    have : partsA ⟨N, s', b, l⟩ ps.toList = partsA ⟨N, s, b, l⟩ ps.toList := by
      unfold partsA
      refine List.map_congr_left fun p hp => ?_
      rw [h p.2 (by simp only [List.mem_map]; exact ⟨p, hp, rfl⟩)]
    rw [this]; exact hk
  case load T x => rw [h x (by simp)]; exact hk
  case store T x y => rw [h x (by simp), h y (by simp)]; exact hk
  case nilCheck x => rw [h x (by simp)]; exact hk
  case binOp op T x y _ => rw [h x (by simp), h y (by simp)]; exact hk
  case unOp op T x => rw [h x (by simp)]; exact hk
  case convert a d x => rw [h x (by simp)]; exact hk
  case makeFunc fn first cap =>
    cases fn with
    | func f =>
      simp only at hk ⊢
      have : cap.toList.map (⟨N, s', b, l⟩ : St).ev = cap.toList.map (⟨N, s, b, l⟩ : St).ev := List.map_congr_left fun x hx => h x (by simp [hx])
      rw [this]; exact hk
    | _ => exact hk.elim
  case makeSlice T x y => rw [h x (by simp), h y (by simp)]; exact hk
  case slice T x lo hi mx =>
    cases mx with
    | some _ => exact hk.elim
    | none =>
      simp only at hk ⊢
      have h1 : lo.map (⟨N, s', b, l⟩ : St).ev = lo.map (⟨N, s, b, l⟩ : St).ev := by cases lo with
        | none => rfl
        | some o => simp only [Option.map_some]; rw [h o (by simp)]
      have h2 : hi.map (⟨N, s', b, l⟩ : St).ev = hi.map (⟨N, s, b, l⟩ : St).ev := by cases hi with
        | none => rfl
        | some o => simp only [Option.map_some]; rw [h o (by simp)]
      rw [h x (by simp), h1, h2]; exact hk
  case fieldAddr T x f => rw [h x (by simp)]; exact hk
  case indexAddr T x i => rw [h x (by simp), h i (by simp)]; exact hk
  case index T x i => rw [h x (by simp), h i (by simp)]; exact hk
  case extract x i => rw [h x (by simp)]; exact hk
  case makeMap T r =>
    cases r with
    | none => exact hk
    | some _ => exact hk.elim
  case lookup T x i ok => rw [h x (by simp), h i (by simp)]; exact hk
  case mapUpdate T x i y => rw [h x (by simp), h i (by simp), h y (by simp)]; exact hk
  case mapEntry T x i => rw [h x (by simp), h i (by simp)]; exact hk
  case entryStore T x i y => rw [h x (by simp), h i (by simp), h y (by simp)]; exact hk
  case range T x => rw [h x (by simp)]; exact hk
  case next x b =>
    cases b with
    | false => simp only at hk ⊢; rw [h x (by simp)]; exact hk
    | true => exact hk.elim
  case entry x => rw [h x (by simp)]; exact hk
  case call c =>
    obtain ⟨callee, args, ts⟩ := c
    have hargs : args.toList.map (⟨N, s', b, l⟩ : St).ev = args.toList.map (⟨N, s, b, l⟩ : St).ev := List.map_congr_left fun x hx => h x (by simp [Call.operands, hx])
    cases callee with
    | invoke r m => simp [vcCall] at hk
    | value f =>
      have hf := h f (by simp [Call.operands])
      show vCall P ((⟨N, s', b, l⟩ : St).ev f) (args.toList.map (⟨N, s', b, l⟩ : St).ev) ⟨N, s', b, l⟩ k
      rw [hf, hargs]; exact hk
    | builtin bb =>
      rcases hA : args.toList with _ | ⟨x, _ | ⟨y, _ | ⟨y2, rest⟩⟩⟩
      · cases bb <;> simp [vcCall, hA] at hk
      · have hx := h x (by simp [Call.operands, hA])
        cases bb <;> simp only [vcCall, hA] at hk ⊢
        case len => rcases hT : ts.toList with _ | ⟨T, _ | ⟨T', rest⟩⟩ <;> simp only [hT] at hk ⊢; rw [hx]; exact hk
      · have hx := h x (by simp [Call.operands, hA])
        have hy := h y (by simp [Call.operands, hA])
        cases bb <;> simp only [vcCall, hA] at hk ⊢
        case append => rcases hT : ts.toList with _ | ⟨T, _ | ⟨T', _ | ⟨T2, rest⟩⟩⟩ <;> simp only [hT] at hk ⊢; rw [hx, hy]; exact hk
        case max => rw [hx, hy]; exact hk
        case min => rw [hx, hy]; exact hk
      · cases bb <;> simp [vcCall, hA] at hk

end Go.Eng

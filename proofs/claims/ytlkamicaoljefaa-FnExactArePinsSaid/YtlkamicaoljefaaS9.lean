import Derived.Test.YtlkamicaoljefaaS8
set_option linter.unusedSimpArgs false
set_option linter.unusedVariables false
namespace Go.Eng
variable {P : Program} {E : Env}
/-- The tail of a row of points, cleared. -/
def clr (xs : List (Int × Int)) (k : Nat) : List (Int × Int) := xs.take k ++ List.replicate (xs.length - k) (0, 0)
theorem clr_len {xs : List (Int × Int)} {k : Nat} (h : k ≤ xs.length) : (clr xs k).length = xs.length := by simp [clr]; omega
theorem setRow_other (w : World) (g b : Nat) (cs : Array Value) (h : b ≠ g) : (w.setRow g cs).heap[b]? = w.heap[b]? := by
  unfold World.setRow
  simp only
  rw [Array.getElem?_modify, if_neg (Ne.symm h)]
theorem zeroCells_pt (m : Nat) : (Builtin.zeroCells #[Value.int IntKind.i64 0, Value.int IntKind.i64 0] m).toList = List.replicate (m * 2) (.int .i64 0) := by
  apply List.ext_getElem
  · simp [Builtin.zeroCells]
  · intro i h1 h2
    simp only [Builtin.zeroCells, Array.toList_map, List.getElem_map, List.getElem_replicate]
    rcases Nat.mod_two_eq_zero_or_one i with h | h <;> simp [h]
theorem clear_last {n : Nat} {Q : Exit → St → Prop} {st : St} {o : Oper} {T et : TypeId} {t k off m : Nat} {xs : List (Int × Int)}
    (ho : o.op = .call { callee := .builtin .clear, args := #[.tmp t], argTypes := #[T] }) (hd : o.dst = none)
    (ht : lk st.slots t = .sl 2 k off m) (hbox : st.base[k]? = some (.row false .pt xs)) (hm : off + m = xs.length) (hu : P.underlying T = some (.slice et)) (hz : ∀ w, (zeroValue et).run P w = .ok (.agg #[.int .i64 0, .int .i64 0]) w)
    (hq : Q .normal { st with base := st.base.set k (.row false .pt (clr xs off)) }) : LastOk P o n Q st := by
  intro c a w hr
  have hkb : k < st.base.length := (List.getElem?_eq_some_iff.1 hbox).1
  have hget : (st.base ++ st.loc)[k]? = some (.row false .pt xs) := by rw [List.getElem?_append_left hkb]; exact hbox
  obtain ⟨loc, hloc, cells, T', g1, g2, g3, g4, g5⟩ := hr.heap.box _ _ hget rfl
  have hv := hr.slots t
  rw [ht] at hv
  generalize hu' : a.tmps.getD t undef = u at hv
  cases hv with
  | @sl _ _ _ _ b o2 l2 hl2 hn ha =>
    rw [hloc] at hl2; cases hl2
    have hex : ∀ v w', (Builtin.clear_ #[T] o.type #[.slice (some ⟨b, o2, none⟩) m (loc.cap - off)]).run P w = .ok v w' → (execOp a.eval o).run P w = .ok (.value v) w' := fun v w' h => by
      have e1 : a.eval (.tmp t) = .slice (some ⟨b, o2, none⟩) m (loc.cap - off) := hu'
      simp [execOp, ho, resolve, invoke, builtin, e1, h]
    rcases Nat.eq_zero_or_pos m with rfl | hmp
    · have hoff : clr xs off = xs := by unfold clr; rw [List.take_of_length_le (by omega), show xs.length - off = 0 by omega]; simp
      refine ⟨_, _, c, _, hex (.tuple #[]) w (by simp [Builtin.clear_, run_underlying hu]), .refl n c, ?_, hq⟩
      have hset : st.base.set k (.row false .pt (clr xs off)) = st.base := by rw [hoff]; exact set_same hbox
      rw [hset, hd]
      exact hr
    · obtain ⟨rfl, rfl⟩ := ha (by omega)
      have hcap : loc.off + loc.cap * 2 ≤ cells.size := g3
      have hcp : xs.length ≤ loc.cap := g4
      have hzc : (Builtin.zeroCells (Value.agg #[Value.int IntKind.i64 0, Value.int IntKind.i64 0]).cells m).toList = List.replicate (m * 2) (.int .i64 0) := zeroCells_pt m
      have hst := run_storeCells_at P loc.blk (loc.off + off * 2) T' (List.replicate (m * 2) (.int .i64 0)) 0 cells w g1 (by rw [List.length_replicate]; omega) (by intro v hv; rw [List.eq_of_mem_replicate hv]; rfl)
      simp only [Nat.add_zero] at hst
      have hfit : loc.off + off * 2 + (List.replicate (m * 2) (Value.int .i64 0)).length ≤ cells.size := by rw [List.length_replicate]; omega
      obtain ⟨q, rfl⟩ : ∃ q, m = q + 1 := ⟨m - 1, by omega⟩
      refine ⟨_, _, c, _, hex (.tuple #[]) _ (by simp only [Builtin.clear_]; simp [run_underlying hu, hz, hzc, hst]; rfl), .refl n c, ?_, hq⟩
      have hh := hr.heap.rewriteRow (ys := clr xs off) hget hloc g1 (setRow_heap w _ _ (cells.toList.take (loc.off + off * 2) ++ List.replicate ((q + 1) * 2) (Value.int .i64 0) ++ cells.toList.drop (loc.off + off * 2 + (List.replicate ((q + 1) * 2) (Value.int .i64 0)).length)).toArray _ _ g1)
        (by simp only [List.size_toArray, List.length_append, List.length_take, List.length_drop, Array.length_toList]; omega)
        (fun b hb _ => setRow_other w _ b _ hb) rfl rfl rfl (clr_len (by omega)) (fun i hi => by
          rw [clr_len (by omega)] at hi
          rw [stored_get _ _ _ hfit, stored_get _ _ _ hfit, List.length_replicate]
          by_cases hio : i < off
          · have e : (clr xs off).getD i (0, 0) = xs.getD i (0, 0) := by
              unfold clr; simp only [List.getD]; rw [List.getElem?_append_left (by simp; omega), List.getElem?_take, if_pos hio]
            obtain ⟨u, hu0, hr0⟩ := g5 i 0 hi (by decide)
            obtain ⟨u', hu1, hr1⟩ := g5 i 1 hi (by decide)
            have h0 := hr0.v_inv
            have h1 := hr1.v_inv
            subst h0; subst h1
            rw [if_neg (by omega), if_neg (by omega), e]
            exact ⟨hu0, hu1⟩
          · have e : (clr xs off).getD i (0, 0) = (0, 0) := by
              unfold clr; simp only [List.getD]; rw [List.getElem?_append_right (by simp; omega), List.getElem?_replicate]
              split <;> rfl
            rw [if_pos (by omega), if_pos (by omega), e]
            constructor
            · simp only [List.getD, List.getElem?_replicate]; rw [if_pos (by omega)]; rfl
            · simp only [List.getD, List.getElem?_replicate]; rw [if_pos (by omega)]; rfl)
      rw [hd]
      refine ⟨hr.defers, hr.size, hr.slots, ?_, by simpa using hr.hn⟩
      show RelH c (st.base.set k (.row false .pt (clr xs off)) ++ st.loc) _
      rw [show st.base.set k (.row false .pt (clr xs off)) ++ st.loc = (st.base ++ st.loc).set k (.row false .pt (clr xs off)) by rw [List.set_append, if_pos hkb]]
      rw [List.length_replicate, List.append_assoc] at hh
      exact hh
end Go.Eng

/- The engine, part G: append; calls. -/
import Derived.Test.YtlgagjboijkpgaaDoorEngF
set_option linter.unusedSimpArgs false
set_option linter.unusedVariables false
namespace Go.Eng
variable {P : Program} {E : Env}

theorem zeroCells_size (z : Array Value) (n : Nat) : (Builtin.zeroCells z n).size = n * z.size := by simp [Builtin.zeroCells]

theorem getD_app_left {a b : List Value} {i : Nat} (h : i < a.length) : (a ++ b).getD i undef = a.getD i undef := by
  simp only [List.getD]; rw [List.getElem?_append_left h]
theorem getD_app_right {a b : List Value} {i : Nat} (h : a.length ≤ i) : (a ++ b).getD i undef = b.getD (i - a.length) undef := by
  simp [List.getD, List.getElem?_append_right h]

theorem vAppend_ok (hE : EnvOk P E) {T ty : TypeId} {st : St} {X Y : AVal} {k : AVal → List ABox → List ABox → Prop} (hk : vAppend E T st X Y k) {n : Nat} {c : Ctx} {a : Act} {w : World} (hst : RelSt n c st a w)
    {u v : Value} (hx : RelV c X u) (hy : RelV c Y v) :
    ∃ z w' c' r b l, (Builtin.append_ #[T, T] ty #[u, v]).run P w = .ok z w' ∧ Ext c c' ∧ RelV c' r z ∧ RelH c' (b ++ l) w' ∧ b.length = n ∧ k r b l := by
  unfold vAppend at hk
  split at hk
  · exact hk.elim
  rename_i e hT
  obtain ⟨et, i, z, t1, t2, t3, t4, t5, t6, t7⟩ := hE.sl _ _ hT
  obtain ⟨ad, m, cp, ys, rfl, hyl, hk, had, news, hnl, hnews, hadm, hnr⟩ := elems_ok (T := T) hk hst hy
  have hszpos := e.sz_pos
  split at hk
  · -- onto nil
    obtain ⟨⟨hm0, hm1⟩, hk⟩ := hk
    have := hx.v_inv; subst this
    obtain ⟨b, rfl⟩ := Option.ne_none_iff_exists'.1 (hadm (by omega))
    have hrun := run_append_nil (P := P) (w := w) T ty et i z t1 t2 t4 b m cp news (by rw [hnl, t3]) (hnews b rfl) (by omega) (by omega) (by
      have : m * i.bytes ≤ 1000000000 * 64 := Nat.mul_le_mul (by omega) t6
      omega)
    have hcap := grownCap_ge w m 0 et
    have hsize : (news.toArray ++ Builtin.zeroCells z.cells (grownCap w m 0 et - m)).size = grownCap w m 0 et * e.sz := by
      rw [Array.size_append, zeroCells_size, t5, List.size_toArray, hnl, ← Nat.add_mul]; congr 1; omega
    obtain ⟨c', he, hloc, hh⟩ := hst.heap.drew.newRow (news.toArray ++ Builtin.zeroCells z.cells (grownCap w m 0 et - m)) et e ys (grownCap w m 0 et) (by rw [hsize]; exact Nat.le_refl _) (by omega) (fun p j hp hj => by
      have h1 : p * e.sz + j < m * e.sz := by
        have : p * e.sz + e.sz ≤ m * e.sz := by rw [← Nat.succ_mul]; exact Nat.mul_le_mul_right _ (by omega)
        omega
      have h2 : (news.toArray ++ Builtin.zeroCells z.cells (grownCap w m 0 et - m)).toList = news ++ (Builtin.zeroCells z.cells (grownCap w m 0 et - m)).toList := by simp
      rw [h2, getD_app_left (by rw [hnl]; exact h1)]
      exact hnr p j (by omega) hj)
    refine ⟨_, _, c', _, st.base, _, hrun, he, ?_, by rw [← List.append_assoc]; exact hh, hst.hn, hk⟩
    have := RelV.sl (c := c') (sz := e.sz) (off := 0) (n := m) (b := w.heap.size) (o := 0) hloc (by show 0 + m ≤ grownCap w m 0 et; omega) (fun _ => ⟨rfl, by simp⟩)
    rw [hyl]
    simpa [St.next] using this
  · -- onto a slice of our own
    rename_i sz id off mm _
    split at hk
    · rename_i e' xs hb
      split at hk
      · rename_i h; subst h
        obtain ⟨rfl, ⟨hle, hmax⟩, hk⟩ := hk
        obtain ⟨b', l', hbl, hn', hK⟩ := St.setBox_ok hk hst.hn
        obtain ⟨ad2, m2, cp2, xs2, hu, hxl, rfl, _, olds, hol, holds, hadm2, hor⟩ := elems_ok (T := T) (e := e') (k := fun q => q = (xs.drop off).take mm) (show elems e' st (.sl e'.sz id off mm) _ from by
          unfold elems; simp [hb, hle]) hst hx
        cases hx with
        | @sl _ _ _ _ bb o ll hl hn ha =>
          simp only [Value.slice.injEq] at hu
          obtain ⟨rfl, rfl, rfl⟩ := hu
          obtain ⟨l2, hl2, cells, T', g1, g2, g3, g4, g5⟩ := hst.heap.box id _ (St.get_some hb rfl) rfl
          rw [hl] at hl2; cases hl2
          have hnext : (st.base ++ st.loc).length = st.next := by simp [St.next]
          have hgetxs : ∀ p, p < mm → ((xs.drop off).take mm).getD p e'.d = xs.getD (off + p) e'.d := fun p hp => by simp [List.getD, hp]
          have hapl : ((xs.drop off).take mm ++ ys).length = mm + m := by simp only [List.length_append, hxl, hyl]
          have hgetap : ∀ p, ((xs.drop off).take mm ++ ys).getD p e'.d = if p < mm then xs.getD (off + p) e'.d else ys.getD (p - mm) e'.d := fun p => by
            by_cases hp : p < mm
            · rw [if_pos hp, ← hgetxs p hp]
              simp only [List.getD]; rw [List.getElem?_append_left (by omega)]
            · rw [if_neg hp]
              simp only [List.getD]; rw [List.getElem?_append_right (by omega), hxl]
          by_cases hroom : mm + m ≤ ll.cap - off
          · -- in place
            by_cases hm0 : m = 0
            · subst hm0
              have hnews0 : news = [] := List.eq_nil_of_length_eq_zero (by rw [hnl]; simp)
              have hys0 : ys = [] := List.eq_nil_of_length_eq_zero hyl
              have hrun : (Builtin.append_ #[T, T] ty #[.slice (some ⟨bb, o, none⟩) mm (ll.cap - off), .slice ad 0 cp]).run P w = .ok (.slice (some ⟨bb, o, none⟩) mm (ll.cap - off)) w := by
                cases ad with
                | none => simp [Builtin.append_, run_underlying t1, sizeOf, typeInfo, t2, Builtin.lenOf, Builtin.firstCells, storeCells, show mm ≤ ll.cap - off by omega]
                | some q => simp [Builtin.append_, run_underlying t1, sizeOf, typeInfo, t2, Builtin.lenOf, Builtin.firstCells, loadCells, loadCellsFrom, storeCells, show mm ≤ ll.cap - off by omega]
              have hself := setRow_self w ll.blk cells T' (0, 0) g1
              obtain ⟨c', he, hse, hloc, hh⟩ := hst.heap.rebind (l' := ⟨ll.blk, ll.off + off * e'.sz, ll.cap - off⟩) (St.get_some hb rfl) rfl hl g2 rfl cells (Y := .row false e' ((xs.drop off).take mm ++ ys))
                (by
                  rw [hself]
                  refine ⟨cells, T', g1, g2, ?_, by rw [hapl]; show mm + 0 ≤ ll.cap - off; omega, fun p j hp hj => ?_⟩
                  · show ll.off + off * e'.sz + (ll.cap - off) * e'.sz ≤ cells.size
                    rw [Nat.add_assoc, ← Nat.add_mul, show off + (ll.cap - off) = ll.cap by omega]; exact g3
                  · rw [hapl] at hp
                    rw [hgetap, if_pos (by omega)]
                    have := g5 (off + p) j (by omega) hj
                    rwa [Nat.add_mul, ← Nat.add_assoc] at this)
              rw [hself] at hh
              refine ⟨_, w, c', _, b', _, hrun, he, ?_, by rw [← List.append_assoc, hbl]; exact hh, hn', hK⟩
              have := RelV.sl (c := c') (sz := e'.sz) (off := 0) (n := mm) (b := bb) (o := o) hloc (by show 0 + mm ≤ ll.cap - off; omega) (fun h => by
                have h' : 0 < ll.cap - off := h
                obtain ⟨rfl, rfl⟩ := ha (by omega); exact ⟨rfl, by simp⟩)
              rw [hyl]
              simpa [hnext] using this
            · obtain ⟨q, rfl⟩ := Option.ne_none_iff_exists'.1 (hadm (by omega))
              obtain ⟨rfl, rfl⟩ := ha (by omega)
              have hfc := run_firstCells_some (P := P) w i.size m q m cp news (by rw [hnl, t3]) (hnews q rfl)
              have hone : ∀ x ∈ news, x.oneCell' = true := fun x hx => by
                obtain ⟨r, hr, rfl⟩ := List.mem_iff_getElem.1 hx
                have hdiv : r / e'.sz < m := Nat.div_lt_of_lt_mul (by rw [Nat.mul_comm]; omega)
                have hmod : r % e'.sz < e'.sz := Nat.mod_lt _ hszpos
                have h1 := hnr (r / e'.sz) (r % e'.sz) hdiv hmod
                have h2 : r / e'.sz * e'.sz + r % e'.sz = r := by rw [Nat.mul_comm, Nat.div_add_mod]
                rw [h2] at h1
                have h3 : news.getD r undef = news[r] := by rw [List.getD, List.getElem?_eq_getElem hr]; rfl
                rw [h3] at h1
                exact h1.oneCell (e'.cell_enc _ _ hmod)
              have hspace : (off + mm + m) * e'.sz ≤ ll.cap * e'.sz := Nat.mul_le_mul_right _ (by omega)
              have hfit : ll.off + off * e'.sz + mm * e'.sz + news.length ≤ cells.size := by
                rw [hnl, Nat.add_assoc (ll.off), ← Nat.add_mul, Nat.add_assoc, ← Nat.add_mul]; omega
              have hst2 := run_storeCells_at P ll.blk (ll.off + off * e'.sz + mm * e'.sz) T' news 0 cells w g1 (by simpa using hfit) hone
              simp only [Nat.add_zero] at hst2
              have hrun : (Builtin.append_ #[T, T] ty #[.slice (some ⟨ll.blk, ll.off + off * e'.sz, none⟩) mm (ll.cap - off), .slice (some q) m cp]).run P w =
                  .ok (.slice (some ⟨ll.blk, ll.off + off * e'.sz, none⟩) (mm + m) (ll.cap - off)) (w.setRow ll.blk (cells.toList.take (ll.off + off * e'.sz + mm * e'.sz) ++ news ++ cells.toList.drop (ll.off + off * e'.sz + mm * e'.sz + news.length)).toArray) := by
                rw [t3] at hfc
                simp only [List.append_assoc] at hst2
                simp [Builtin.append_, run_underlying t1, sizeOf, typeInfo, t2, Builtin.lenOf, hroom, t3, hfc, addr_add, hst2]
              obtain ⟨c', he, hse, hloc, hh⟩ := hst.heap.rebind (l' := ⟨ll.blk, ll.off + off * e'.sz, ll.cap - off⟩) (St.get_some hb rfl) rfl hl g2 rfl
                (cells.toList.take (ll.off + off * e'.sz + mm * e'.sz) ++ news ++ cells.toList.drop (ll.off + off * e'.sz + mm * e'.sz + news.length)).toArray (Y := .row false e' ((xs.drop off).take mm ++ ys))
                (by
                  refine ⟨_, T', setRow_heap w _ _ _ _ _ g1, g2, ?_, by rw [hapl]; exact hroom, fun p j hp hj => ?_⟩
                  · show ll.off + off * e'.sz + (ll.cap - off) * e'.sz ≤ _
                    rw [Nat.add_assoc, ← Nat.add_mul, show off + (ll.cap - off) = ll.cap by omega]
                    have : (cells.toList.take (ll.off + off * e'.sz + mm * e'.sz) ++ news ++ cells.toList.drop (ll.off + off * e'.sz + mm * e'.sz + news.length)).toArray.size = cells.size := by
                      simp only [List.size_toArray, List.length_append, List.length_take, List.length_drop, Array.length_toList]; omega
                    rw [this]; exact g3
                  · rw [hapl] at hp
                    rw [hgetap, stored_get _ _ _ hfit]
                    show ∃ u, (if ll.off + off * e'.sz + mm * e'.sz ≤ ll.off + off * e'.sz + p * e'.sz + j ∧ ll.off + off * e'.sz + p * e'.sz + j < ll.off + off * e'.sz + mm * e'.sz + news.length then _ else _) = some u ∧ _
                    by_cases hpm : p < mm
                    · have hpe : p * e'.sz + e'.sz ≤ mm * e'.sz := by rw [← Nat.succ_mul]; exact Nat.mul_le_mul_right _ hpm
                      rw [if_pos hpm, if_neg (by omega)]
                      have := g5 (off + p) j (by omega) hj
                      rwa [Nat.add_mul, ← Nat.add_assoc] at this
                    · have hpe : mm * e'.sz ≤ p * e'.sz := Nat.mul_le_mul_right _ (by omega)
                      have hpe2 : p * e'.sz + e'.sz ≤ (mm + m) * e'.sz := by rw [← Nat.succ_mul]; exact Nat.mul_le_mul_right _ (by omega)
                      rw [Nat.add_mul] at hpe2
                      rw [if_neg hpm, if_pos (by rw [hnl]; omega)]
                      refine ⟨_, rfl, ?_⟩
                      have hix : ll.off + off * e'.sz + p * e'.sz + j - (ll.off + off * e'.sz + mm * e'.sz) = (p - mm) * e'.sz + j := by
                        rw [Nat.sub_mul]; omega
                      rw [hix]; exact hnr (p - mm) j (by omega) hj)
              refine ⟨_, _, c', _, b', _, hrun, he, ?_, by rw [← List.append_assoc, hbl]; exact hh, hn', hK⟩
              have := RelV.sl (c := c') (sz := e'.sz) (off := 0) (n := mm + m) (b := ll.blk) (o := ll.off + off * e'.sz) hloc (by show 0 + (mm + m) ≤ ll.cap - off; omega) (fun h => ⟨rfl, by simp⟩)
              rw [hyl]
              simpa [hnext] using this
          · -- it grows
            have hm0 : 0 < m := by omega
            obtain ⟨q, rfl⟩ := Option.ne_none_iff_exists'.1 (hadm hm0)
            have hrun := run_append_grow (P := P) (w := w) T ty et i z t1 t2 t4 ⟨bb, o, none⟩ mm (ll.cap - off) olds (by rw [hol, t3]) (holds _ rfl) q m cp news (by rw [hnl, t3]) (hnews q rfl) (by omega) (by omega)
              (growslice_fits (by omega) (by
                have : (mm + m) * i.bytes ≤ 1000000000 * 64 := Nat.mul_le_mul (by omega) t6
                omega))
            have hcap := grownCap_ge w (mm + m) (ll.cap - off) et
            have hsize : (olds.toArray ++ news.toArray ++ Builtin.zeroCells z.cells (grownCap w (mm + m) (ll.cap - off) et - (mm + m))).size = grownCap w (mm + m) (ll.cap - off) et * e'.sz := by
              rw [Array.size_append, Array.size_append, zeroCells_size, t5, List.size_toArray, List.size_toArray, hol, hnl, ← Nat.add_mul, ← Nat.add_mul]; congr 1; omega
            have hkill := (hst.heap.kill id).drew
            have hlen2 : ((st.base ++ st.loc).set id .dead).length = st.next := by simp [St.next]
            obtain ⟨c', he, hloc, hh⟩ := hkill.newRow (olds.toArray ++ news.toArray ++ Builtin.zeroCells z.cells (grownCap w (mm + m) (ll.cap - off) et - (mm + m))) et e' ((xs.drop off).take mm ++ ys) (grownCap w (mm + m) (ll.cap - off) et)
              (by rw [hsize]; exact Nat.le_refl _) (by rw [hapl]; exact hcap) (fun p j hp hj => by
                rw [hapl] at hp
                have h2 : (olds.toArray ++ news.toArray ++ Builtin.zeroCells z.cells (grownCap w (mm + m) (ll.cap - off) et - (mm + m))).toList = olds ++ (news ++ (Builtin.zeroCells z.cells (grownCap w (mm + m) (ll.cap - off) et - (mm + m))).toList) := by simp
                rw [h2]
                by_cases hpm : p < mm
                · have hpe : p * e'.sz + e'.sz ≤ mm * e'.sz := by rw [← Nat.succ_mul]; exact Nat.mul_le_mul_right _ hpm
                  rw [hgetap, if_pos hpm, getD_app_left (by rw [hol]; omega), ← hgetxs p hpm]
                  exact hor p j hpm hj
                · have hpe : mm * e'.sz ≤ p * e'.sz := Nat.mul_le_mul_right _ (by omega)
                  have hpe2 : p * e'.sz + e'.sz ≤ (mm + m) * e'.sz := by rw [← Nat.succ_mul]; exact Nat.mul_le_mul_right _ (by omega)
                  rw [Nat.add_mul] at hpe2
                  have hix : p * e'.sz + j - olds.length = (p - mm) * e'.sz + j := by rw [hol, Nat.sub_mul]; omega
                  have hix2 : (p - mm) * e'.sz + j < m * e'.sz := by rw [Nat.sub_mul]; omega
                  rw [hgetap, if_neg hpm, getD_app_right (by rw [hol]; omega), hix, getD_app_left (by rw [hnl]; exact hix2)]
                  exact hnr (p - mm) j (by omega) hj)
            rw [hlen2] at hloc
            refine ⟨_, _, c', _, b', _, hrun, he, ?_, by rw [← List.append_assoc, hbl]; exact hh, hn', hK⟩
            have := RelV.sl (c := c') (sz := e'.sz) (off := 0) (n := mm + m) (b := w.heap.size) (o := 0) hloc (by show 0 + (mm + m) ≤ grownCap w (mm + m) (ll.cap - off) et; omega) (fun h => ⟨rfl, by simp⟩)
            rw [hyl]
            simpa using this
      · exact hk.elim
    · exact hk.elim
  · exact hk.elim

end Go.Eng

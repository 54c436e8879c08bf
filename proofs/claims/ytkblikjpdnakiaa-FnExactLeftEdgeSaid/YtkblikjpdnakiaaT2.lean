/- Texts of this seat that the law stands on, put together. No conditions. -/
import Derived.Laws.CopyRow
import Derived.Test.YtkblikjpdnakiaaT1
section
set_option linter.unusedSimpArgs false
set_option linter.unusedVariables false
namespace Go.Eng
variable {P : Program} {E : Env}
theorem zeroCells_size (z : Array Value) (n : Nat) : (Builtin.zeroCells z n).size = n * z.size := by simp [Builtin.zeroCells]
theorem getD_app_left {a b : List Value} {i : Nat} (h : i < a.length) : (a ++ b).getD i undef = a.getD i undef := by
  simp only [List.getD]; rw [List.getElem?_append_left h]
theorem getD_app_right {a b : List Value} {i : Nat} (h : a.length ≤ i) : (a ++ b).getD i undef = b.getD (i - a.length) undef := by
  simp [List.getD, List.getElem?_append_right h]
theorem vAppend_ok (hE : EnvOk P E) {T ty : TypeId} {st : St} {X Y : AVal} {k : AVal → List ABox → List ABox → Prop} (hk : vAppend E T st X Y k) {n : Nat} {c : Ctx} {a : Act} {w : World} (hst : RelSt n c st a w)
    {u v : Value} (hx : RelV c X u) (hy : RelV c Y v) :
    ∃ z w' c' r b l, (Builtin.append_ #[T, T] ty #[u, v]).run P w = .ok z w' ∧ Ext c c' ∧ RelV c' r z ∧ RelH c' (b ++ l) w' ∧ b.length = n ∧ k r b l := by
  unfold vAppend at hk
  split at hk
  · exact hk.elim
  rename_i e hT
  obtain ⟨et, i, z, t1, t2, t3, t4, t5, t6, t7⟩ := hE.sl _ _ hT
  obtain ⟨ad, m, cp, ys, rfl, hyl, hk, had, news, hnl, hnews, hadm, hnr⟩ := elems_ok (T := T) hk hst hy
  have hszpos := e.sz_pos
  split at hk
  · -- onto nil
    obtain ⟨⟨hm0, hm1⟩, hk⟩ := hk
    have := hx.v_inv; subst this
    obtain ⟨b, rfl⟩ := Option.ne_none_iff_exists'.1 (hadm (by omega))
    have hrun := run_append_nil (P := P) (w := w) T ty et i z t1 t2 t4 b m cp news (by rw [hnl, t3]) (hnews b rfl) (by omega) (by omega) (by
      have : m * i.bytes ≤ 1000000000 * 64 := Nat.mul_le_mul (by omega) t6
      omega)
    have hcap := grownCap_ge w m 0 et
    have hsize : (news.toArray ++ Builtin.zeroCells z.cells (grownCap w m 0 et - m)).size = grownCap w m 0 et * e.sz := by
      rw [Array.size_append, zeroCells_size, t5, List.size_toArray, hnl, ← Nat.add_mul]; congr 1; omega
    obtain ⟨c', he, hloc, hh⟩ := hst.heap.drew.newRow (news.toArray ++ Builtin.zeroCells z.cells (grownCap w m 0 et - m)) et e ys (grownCap w m 0 et) (by rw [hsize]; exact Nat.le_refl _) (by omega) (fun p j hp hj => by
      have h1 : p * e.sz + j < m * e.sz := by
        have : p * e.sz + e.sz ≤ m * e.sz := by rw [← Nat.succ_mul]; exact Nat.mul_le_mul_right _ (by omega)
        omega
      have h2 : (news.toArray ++ Builtin.zeroCells z.cells (grownCap w m 0 et - m)).toList = news ++ (Builtin.zeroCells z.cells (grownCap w m 0 et - m)).toList := by simp
      rw [h2, getD_app_left (by rw [hnl]; exact h1)]
      exact hnr p j (by omega) hj)
    refine ⟨_, _, c', _, st.base, _, hrun, he, ?_, by rw [← List.append_assoc]; exact hh, hst.hn, hk⟩
    have := RelV.sl (c := c') (sz := e.sz) (off := 0) (n := m) (b := w.heap.size) (o := 0) hloc (by show 0 + m ≤ grownCap w m 0 et; omega) (fun _ => ⟨rfl, by simp⟩)
    rw [hyl]
    simpa [St.next] using this
  · -- onto a slice of our own
    rename_i sz id off mm _
    split at hk
    · rename_i e' xs hb
      split at hk
      · rename_i h; subst h
        obtain ⟨rfl, ⟨hle, hmax⟩, hk⟩ := hk
        obtain ⟨b', l', hbl, hn', hK⟩ := St.setBox_ok hk hst.hn
        obtain ⟨ad2, m2, cp2, xs2, hu, hxl, rfl, _, olds, hol, holds, hadm2, hor⟩ := elems_ok (T := T) (e := e') (k := fun q => q = (xs.drop off).take mm) (show elems e' st (.sl e'.sz id off mm) _ from by
          unfold elems; simp [hb, hle]) hst hx
        cases hx with
        | @sl _ _ _ _ bb o ll hl hn ha =>
          simp only [Value.slice.injEq] at hu
          obtain ⟨rfl, rfl, rfl⟩ := hu
          obtain ⟨l2, hl2, cells, T', g1, g2, g3, g4, g5⟩ := hst.heap.box id _ (St.get_some hb rfl) rfl
          rw [hl] at hl2; cases hl2
          have hnext : (st.base ++ st.loc).length = st.next := by simp [St.next]
          have hgetxs : ∀ p, p < mm → ((xs.drop off).take mm).getD p e'.d = xs.getD (off + p) e'.d := fun p hp => by simp [List.getD, hp]
          have hapl : ((xs.drop off).take mm ++ ys).length = mm + m := by simp only [List.length_append, hxl, hyl]
          have hgetap : ∀ p, ((xs.drop off).take mm ++ ys).getD p e'.d = if p < mm then xs.getD (off + p) e'.d else ys.getD (p - mm) e'.d := fun p => by
            by_cases hp : p < mm
            · rw [if_pos hp, ← hgetxs p hp]
              simp only [List.getD]; rw [List.getElem?_append_left (by omega)]
            · rw [if_neg hp]
              simp only [List.getD]; rw [List.getElem?_append_right (by omega), hxl]
          by_cases hroom : mm + m ≤ ll.cap - off
          · -- in place
            by_cases hm0 : m = 0
            · subst hm0
              have hnews0 : news = [] := List.eq_nil_of_length_eq_zero (by rw [hnl]; simp)
              have hys0 : ys = [] := List.eq_nil_of_length_eq_zero hyl
              have hrun : (Builtin.append_ #[T, T] ty #[.slice (some ⟨bb, o, none⟩) mm (ll.cap - off), .slice ad 0 cp]).run P w = .ok (.slice (some ⟨bb, o, none⟩) mm (ll.cap - off)) w := by
                cases ad with
                | none => simp [Builtin.append_, run_underlying t1, sizeOf, typeInfo, t2, Builtin.lenOf, Builtin.firstCells, storeCells, show mm ≤ ll.cap - off by omega]
                | some q => simp [Builtin.append_, run_underlying t1, sizeOf, typeInfo, t2, Builtin.lenOf, Builtin.firstCells, loadCells, loadCellsFrom, storeCells, show mm ≤ ll.cap - off by omega]
              have hself := setRow_self w ll.blk cells T' (0, 0) g1
              obtain ⟨c', he, hse, hloc, hh⟩ := hst.heap.rebind (l' := ⟨ll.blk, ll.off + off * e'.sz, ll.cap - off⟩) (St.get_some hb rfl) rfl hl g2 rfl cells (Y := .row false e' ((xs.drop off).take mm ++ ys))
                (by
                  rw [hself]
                  refine ⟨cells, T', g1, g2, ?_, by rw [hapl]; show mm + 0 ≤ ll.cap - off; omega, fun p j hp hj => ?_⟩
                  · show ll.off + off * e'.sz + (ll.cap - off) * e'.sz ≤ cells.size
                    rw [Nat.add_assoc, ← Nat.add_mul, show off + (ll.cap - off) = ll.cap by omega]; exact g3
                  · rw [hapl] at hp
                    rw [hgetap, if_pos (by omega)]
                    have := g5 (off + p) j (by omega) hj
                    rwa [Nat.add_mul, ← Nat.add_assoc] at this)
              rw [hself] at hh
              refine ⟨_, w, c', _, b', _, hrun, he, ?_, by rw [← List.append_assoc, hbl]; exact hh, hn', hK⟩
              have := RelV.sl (c := c') (sz := e'.sz) (off := 0) (n := mm) (b := bb) (o := o) hloc (by show 0 + mm ≤ ll.cap - off; omega) (fun h => by
                have h' : 0 < ll.cap - off := h
                obtain ⟨rfl, rfl⟩ := ha (by omega); exact ⟨rfl, by simp⟩)
              rw [hyl]
              simpa [hnext] using this
            · obtain ⟨q, rfl⟩ := Option.ne_none_iff_exists'.1 (hadm (by omega))
              obtain ⟨rfl, rfl⟩ := ha (by omega)
              have hfc := run_firstCells_some (P := P) w i.size m q m cp news (by rw [hnl, t3]) (hnews q rfl)
              have hone : ∀ x ∈ news, x.oneCell' = true := fun x hx => by
                obtain ⟨r, hr, rfl⟩ := List.mem_iff_getElem.1 hx
                have hdiv : r / e'.sz < m := Nat.div_lt_of_lt_mul (by rw [Nat.mul_comm]; omega)
                have hmod : r % e'.sz < e'.sz := Nat.mod_lt _ hszpos
                have h1 := hnr (r / e'.sz) (r % e'.sz) hdiv hmod
                have h2 : r / e'.sz * e'.sz + r % e'.sz = r := by rw [Nat.mul_comm, Nat.div_add_mod]
                rw [h2] at h1
                have h3 : news.getD r undef = news[r] := by rw [List.getD, List.getElem?_eq_getElem hr]; rfl
                rw [h3] at h1
                exact h1.oneCell (e'.cell_enc _ _ hmod)
              have hspace : (off + mm + m) * e'.sz ≤ ll.cap * e'.sz := Nat.mul_le_mul_right _ (by omega)
              have hfit : ll.off + off * e'.sz + mm * e'.sz + news.length ≤ cells.size := by
                rw [hnl, Nat.add_assoc (ll.off), ← Nat.add_mul, Nat.add_assoc, ← Nat.add_mul]; omega
              have hst2 := run_storeCells_at P ll.blk (ll.off + off * e'.sz + mm * e'.sz) T' news 0 cells w g1 (by simpa using hfit) hone
              simp only [Nat.add_zero] at hst2
              have hrun : (Builtin.append_ #[T, T] ty #[.slice (some ⟨ll.blk, ll.off + off * e'.sz, none⟩) mm (ll.cap - off), .slice (some q) m cp]).run P w =
                  .ok (.slice (some ⟨ll.blk, ll.off + off * e'.sz, none⟩) (mm + m) (ll.cap - off)) (w.setRow ll.blk (cells.toList.take (ll.off + off * e'.sz + mm * e'.sz) ++ news ++ cells.toList.drop (ll.off + off * e'.sz + mm * e'.sz + news.length)).toArray) := by
                rw [t3] at hfc
                simp only [List.append_assoc] at hst2
                simp [Builtin.append_, run_underlying t1, sizeOf, typeInfo, t2, Builtin.lenOf, hroom, t3, hfc, addr_add, hst2]
              obtain ⟨c', he, hse, hloc, hh⟩ := hst.heap.rebind (l' := ⟨ll.blk, ll.off + off * e'.sz, ll.cap - off⟩) (St.get_some hb rfl) rfl hl g2 rfl
                (cells.toList.take (ll.off + off * e'.sz + mm * e'.sz) ++ news ++ cells.toList.drop (ll.off + off * e'.sz + mm * e'.sz + news.length)).toArray (Y := .row false e' ((xs.drop off).take mm ++ ys))
                (by
                  refine ⟨_, T', setRow_heap w _ _ _ _ _ g1, g2, ?_, by rw [hapl]; exact hroom, fun p j hp hj => ?_⟩
                  · show ll.off + off * e'.sz + (ll.cap - off) * e'.sz ≤ _
                    rw [Nat.add_assoc, ← Nat.add_mul, show off + (ll.cap - off) = ll.cap by omega]
                    have : (cells.toList.take (ll.off + off * e'.sz + mm * e'.sz) ++ news ++ cells.toList.drop (ll.off + off * e'.sz + mm * e'.sz + news.length)).toArray.size = cells.size := by
                      simp only [List.size_toArray, List.length_append, List.length_take, List.length_drop, Array.length_toList]; omega
                    rw [this]; exact g3
                  · rw [hapl] at hp
                    rw [hgetap, stored_get _ _ _ hfit]
                    show ∃ u, (if ll.off + off * e'.sz + mm * e'.sz ≤ ll.off + off * e'.sz + p * e'.sz + j ∧ ll.off + off * e'.sz + p * e'.sz + j < ll.off + off * e'.sz + mm * e'.sz + news.length then _ else _) = some u ∧ _
                    by_cases hpm : p < mm
                    · have hpe : p * e'.sz + e'.sz ≤ mm * e'.sz := by rw [← Nat.succ_mul]; exact Nat.mul_le_mul_right _ hpm
                      rw [if_pos hpm, if_neg (by omega)]
                      have := g5 (off + p) j (by omega) hj
                      rwa [Nat.add_mul, ← Nat.add_assoc] at this
                    · have hpe : mm * e'.sz ≤ p * e'.sz := Nat.mul_le_mul_right _ (by omega)
                      have hpe2 : p * e'.sz + e'.sz ≤ (mm + m) * e'.sz := by rw [← Nat.succ_mul]; exact Nat.mul_le_mul_right _ (by omega)
                      rw [Nat.add_mul] at hpe2
                      rw [if_neg hpm, if_pos (by rw [hnl]; omega)]
                      refine ⟨_, rfl, ?_⟩
                      have hix : ll.off + off * e'.sz + p * e'.sz + j - (ll.off + off * e'.sz + mm * e'.sz) = (p - mm) * e'.sz + j := by
                        rw [Nat.sub_mul]; omega
                      rw [hix]; exact hnr (p - mm) j (by omega) hj)
              refine ⟨_, _, c', _, b', _, hrun, he, ?_, by rw [← List.append_assoc, hbl]; exact hh, hn', hK⟩
              have := RelV.sl (c := c') (sz := e'.sz) (off := 0) (n := mm + m) (b := ll.blk) (o := ll.off + off * e'.sz) hloc (by show 0 + (mm + m) ≤ ll.cap - off; omega) (fun h => ⟨rfl, by simp⟩)
              rw [hyl]
              simpa [hnext] using this
          · -- it grows
            have hm0 : 0 < m := by omega
            obtain ⟨q, rfl⟩ := Option.ne_none_iff_exists'.1 (hadm hm0)
            have hrun := run_append_grow (P := P) (w := w) T ty et i z t1 t2 t4 ⟨bb, o, none⟩ mm (ll.cap - off) olds (by rw [hol, t3]) (holds _ rfl) q m cp news (by rw [hnl, t3]) (hnews q rfl) (by omega) (by omega)
              (growslice_fits (by omega) (by
                have : (mm + m) * i.bytes ≤ 1000000000 * 64 := Nat.mul_le_mul (by omega) t6
                omega))
            have hcap := grownCap_ge w (mm + m) (ll.cap - off) et
            have hsize : (olds.toArray ++ news.toArray ++ Builtin.zeroCells z.cells (grownCap w (mm + m) (ll.cap - off) et - (mm + m))).size = grownCap w (mm + m) (ll.cap - off) et * e'.sz := by
              rw [Array.size_append, Array.size_append, zeroCells_size, t5, List.size_toArray, List.size_toArray, hol, hnl, ← Nat.add_mul, ← Nat.add_mul]; congr 1; omega
            have hkill := (hst.heap.kill id).drew
            have hlen2 : ((st.base ++ st.loc).set id .dead).length = st.next := by simp [St.next]
            obtain ⟨c', he, hloc, hh⟩ := hkill.newRow (olds.toArray ++ news.toArray ++ Builtin.zeroCells z.cells (grownCap w (mm + m) (ll.cap - off) et - (mm + m))) et e' ((xs.drop off).take mm ++ ys) (grownCap w (mm + m) (ll.cap - off) et)
              (by rw [hsize]; exact Nat.le_refl _) (by rw [hapl]; exact hcap) (fun p j hp hj => by
                rw [hapl] at hp
                have h2 : (olds.toArray ++ news.toArray ++ Builtin.zeroCells z.cells (grownCap w (mm + m) (ll.cap - off) et - (mm + m))).toList = olds ++ (news ++ (Builtin.zeroCells z.cells (grownCap w (mm + m) (ll.cap - off) et - (mm + m))).toList) := by simp
                rw [h2]
                by_cases hpm : p < mm
                · have hpe : p * e'.sz + e'.sz ≤ mm * e'.sz := by rw [← Nat.succ_mul]; exact Nat.mul_le_mul_right _ hpm
                  rw [hgetap, if_pos hpm, getD_app_left (by rw [hol]; omega), ← hgetxs p hpm]
                  exact hor p j hpm hj
                · have hpe : mm * e'.sz ≤ p * e'.sz := Nat.mul_le_mul_right _ (by omega)
                  have hpe2 : p * e'.sz + e'.sz ≤ (mm + m) * e'.sz := by rw [← Nat.succ_mul]; exact Nat.mul_le_mul_right _ (by omega)
                  rw [Nat.add_mul] at hpe2
                  have hix : p * e'.sz + j - olds.length = (p - mm) * e'.sz + j := by rw [hol, Nat.sub_mul]; omega
                  have hix2 : (p - mm) * e'.sz + j < m * e'.sz := by rw [Nat.sub_mul]; omega
                  rw [hgetap, if_neg hpm, getD_app_right (by rw [hol]; omega), hix, getD_app_left (by rw [hnl]; exact hix2)]
                  exact hnr (p - mm) j (by omega) hj)
            rw [hlen2] at hloc
            refine ⟨_, _, c', _, b', _, hrun, he, ?_, by rw [← List.append_assoc, hbl]; exact hh, hn', hK⟩
            have := RelV.sl (c := c') (sz := e'.sz) (off := 0) (n := mm + m) (b := w.heap.size) (o := 0) hloc (by show 0 + (mm + m) ≤ grownCap w (mm + m) (ll.cap - off) et; omega) (fun h => ⟨rfl, by simp⟩)
            rw [hyl]
            simpa using this
      · exact hk.elim
    · exact hk.elim
  · exact hk.elim
theorem vCopy_ok (hE : EnvOk P E) {T ty : TypeId} {st : St} {X Y : AVal} {k : AVal → List ABox → List ABox → Prop} (hk : vCopy E T st X Y k) {n : Nat} {c : Ctx} {a : Act} {w : World} (hst : RelSt n c st a w)
    {u v : Value} (hx : RelV c X u) (hy : RelV c Y v) :
    ∃ z w' c' r b l, (Builtin.copy_ #[T, T] ty #[u, v]).run P w = .ok z w' ∧ Ext c c' ∧ RelV c' r z ∧ RelH c' (b ++ l) w' ∧ b.length = n ∧ k r b l := by
  unfold vCopy at hk
  split at hk
  · rename_i kk sz id off m hT
    obtain ⟨et, i, z, t1, t2, t3, t4, t5, t6, t7⟩ := hE.sl _ _ hT
    obtain ⟨ad, q, cp, ys, rfl, hyl, hk, had, news, hnl, hnews, hadm, hnr⟩ := elems_ok (T := T) hk hst hy
    split at hk
    · rename_i k2 xs hb
      obtain ⟨⟨rfl, rfl, hle⟩, ⟨hm0, hq0⟩, hk⟩ := hk
      obtain ⟨b', l', hbl, hn', hK⟩ := St.setBox_ok hk hst.hn
      obtain ⟨s, rfl⟩ := Option.ne_none_iff_exists'.1 (hadm (by omega))
      simp only [ETy.sz, Nat.mul_one] at hnl hnr t3
      cases hx with
      | @sl _ _ _ _ bb o ll hl hn ha =>
        obtain ⟨l2, hl2, cells, T', g1, g2, g3, g4, g5⟩ := hst.heap.box id _ (St.get_some hb rfl) rfl
        rw [hl] at hl2; cases hl2
        simp only [ETy.sz, Nat.mul_one] at g3 g5
        obtain ⟨rfl, rfl⟩ := ha (by omega)
        rw [Nat.mul_one]
        have hcl : (news.take m).length = min q m := by rw [List.length_take, hnl, Nat.min_comm]
        have hgetv : ∀ p, p < q → news.getD p undef = .int k2 (ys.getD p 0) := fun p hp => (hnr p 0 hp Nat.one_pos).v_inv
        have hrun := run_copy_row (P := P) w T T ty et ll.blk (ll.off + off) m (ll.cap - off) s q cp cells T' (news.take m) t1 (by rw [t2]; simp [t3]) g1 hcl (fun j u hj => by
            have : news[j]? = some u := by
              rw [List.getElem?_take] at hj
              split at hj
              · exact hj
              · cases hj
            exact hnews s rfl j u this) (by rw [hcl]; omega) (fun u hu => by
            obtain ⟨p, hp, rfl⟩ := List.mem_iff_getElem.1 (List.mem_of_mem_take hu)
            have := hgetv p (by omega)
            rw [List.getD, List.getElem?_eq_getElem hp] at this
            simp only [Option.getD_some] at this
            rw [this]; rfl)
        rw [hcl] at hrun
        refine ⟨_, _, c, _, b', l', hrun, .refl c, ?_, ?_, hn', hK⟩
        · rw [hyl]; exact .v _
        · rw [hbl]
          refine hst.heap.write (St.get_some hb rfl) rfl hl g2 _ ⟨_, T', setRow_heap w _ _ _ _ _ g1, g2, ?_, ?_, fun p j hp hj => ?_⟩
          · simp only [ETy.sz, Nat.mul_one, List.size_toArray, List.length_append, List.length_take, List.length_drop, Array.length_toList]
            omega
          · simp only [List.length_append, List.length_take, List.length_drop]; omega
          · obtain rfl : j = 0 := by have : j < 1 := hj; omega
            have hp' : p < xs.length := by simp only [List.length_append, List.length_take, List.length_drop] at hp; omega
            have h5 := g5 p 0 hp' Nat.one_pos
            simp only [Nat.add_zero] at h5
            show ∃ u, (((cells.toList.take (ll.off + off) ++ news.take m ++ cells.toList.drop (ll.off + off + min q m)).toArray)[ll.off + p * 1 + 0]?) = some u ∧ RelV c (.v (.int k2 ((xs.take off ++ ys.take m ++ xs.drop (off + min ys.length m)).getD p 0))) u
            have hsg := stored_get cells (ll.off + off) (news.take m) (by rw [hcl]; omega) (ll.off + p)
            rw [hcl] at hsg
            rw [Nat.mul_one, Nat.add_zero, hsg]
            have hyt : (ys.take m).length = min q m := by rw [List.length_take, hyl, Nat.min_comm]
            by_cases hin : off ≤ p ∧ p < off + min q m
            · rw [if_pos (by omega)]
              refine ⟨_, rfl, ?_⟩
              have e1 : (news.take m).getD (ll.off + p - (ll.off + off)) undef = news.getD (p - off) undef := by
                rw [show ll.off + p - (ll.off + off) = p - off by omega]
                simp only [List.getD, List.getElem?_take]
                rw [if_pos (by omega)]
              have e2 : (xs.take off ++ ys.take m ++ xs.drop (off + min ys.length m)).getD p 0 = ys.getD (p - off) 0 := by
                have hxt : (xs.take off).length = off := by simp; omega
                simp only [List.getD]
                rw [List.append_assoc, List.getElem?_append_right (by omega), hxt, List.getElem?_append_left (by omega), List.getElem?_take, if_pos (by omega)]
              rw [e1, e2, hgetv _ (by omega)]
              exact .v _
            · rw [if_neg (by omega)]
              have e2 : (xs.take off ++ ys.take m ++ xs.drop (off + min ys.length m)).getD p 0 = xs.getD p 0 := by
                have hxt : (xs.take off).length = off := by simp; omega
                simp only [List.getD]
                rw [List.append_assoc]
                by_cases hpo : p < off
                · rw [List.getElem?_append_left (by omega), List.getElem?_take, if_pos hpo]
                · rw [List.getElem?_append_right (by omega), hxt, List.getElem?_append_right (by omega), hyt, List.getElem?_drop, hyl]
                  congr 2; omega
              rw [e2]
              obtain ⟨u, hu, hr⟩ := h5
              exact ⟨u, hu, hr⟩
    · exact hk.elim
  · exact hk.elim
end Go.Eng
end

/- The engine, part F: slicing, append, calls. -/
import Derived.Test.YtlgagjboijkpgaaDoorEngE
set_option linter.unusedSimpArgs false
set_option linter.unusedVariables false
namespace Go.Eng
variable {P : Program} {E : Env}

/-- An optional bound: a number; the default. -/
def bnd (o : Option AVal) (d : Int) (k : Int → Prop) : Prop :=
  match o with
  | none => k d
  | some (.v (.int _ n)) => k n
  | some _ => False

def strCut (s : ByteArray) (l h : Nat) : ByteArray := s.extract l h

def vSlice (E : Env) (T : TypeId) (x : AVal) (lo hi : Option AVal) (k : AVal → Prop) : Prop :=
  match E.knd T, E.sl T, x with
  | some .string, _, .v (.string s) => bnd lo 0 fun l => bnd hi s.size fun h => (0 ≤ l ∧ l ≤ h ∧ h ≤ s.size) ∧ k (.v (.string (strCut s l.toNat h.toNat)))
  | _, some e', .rd e xs => bnd lo 0 fun l => bnd hi xs.length fun h => e' = e ∧ (0 ≤ l ∧ l ≤ h ∧ h ≤ xs.length) ∧ k (.rd e ((xs.drop l.toNat).take (h.toNat - l.toNat)))
  | _, some e, .sl sz id off n => bnd lo 0 fun l => bnd hi n fun h => e.sz = sz ∧ (0 ≤ l ∧ l ≤ h ∧ h ≤ n) ∧ k (.sl sz id (off + l.toNat) (h.toNat - l.toNat))
  | _, _, _ => False

theorem bnd_ok {o : Option AVal} {d : Int} {k : Int → Prop} (h : bnd o d k) {c : Ctx} {u : Option Value} (hu : ∀ x, o = some x → ∃ y, u = some y ∧ RelV c x y) (hn : o = none → u = none) :
    (u = none ∧ k d) ∨ ∃ kk n, u = some (.int kk n) ∧ k n := by
  unfold bnd at h
  split at h
  · exact .inl ⟨hn rfl, h⟩
  · rename_i kk n
    obtain ⟨y, hy, hr⟩ := hu _ rfl
    have := hr.v_inv; subst this
    exact .inr ⟨kk, n, hy, h⟩
  · exact h.elim

theorem run_sliceBound {kk : IntKind} {i : Int} {y : Nat} {code : BoundsCode} (h : 0 ≤ i ∧ i ≤ y) (w : World) : (Instr.sliceBound (.int kk i) y code).run P w = .ok i.toNat w := by
  simp only [Instr.sliceBound, Sem.run_bind, asIntOf, Sem.run_pure, Result.andThen_ok, if_pos h]

theorem run_sliceBounds {isS : Bool} {len cap : Nat} {lo hi : Option Value} (l h : Int) (hlo : (lo = none ∧ l = 0) ∨ ∃ kk, lo = some (.int kk l)) (hhi : (hi = none ∧ h = len) ∨ ∃ kk, hi = some (.int kk h))
    (hb : 0 ≤ l ∧ l ≤ h ∧ h ≤ len) (hc : len ≤ cap) (w : World) : (Instr.sliceBounds isS len cap lo hi none).run P w = .ok (l.toNat, h.toNat, cap) w := by
  have h2 : ((h.toNat : Nat) : Int) = h := by omega
  rcases hlo with ⟨rfl, rfl⟩ | ⟨kk, rfl⟩ <;> rcases hhi with ⟨rfl, rfl⟩ | ⟨kk', rfl⟩
  · simp [Instr.sliceBounds]
  · simp only [Instr.sliceBounds, Sem.run_bind, Sem.run_pure, Result.andThen_ok]
    rw [run_sliceBound (by omega)]; rfl
  · simp only [Instr.sliceBounds, Sem.run_bind, Sem.run_pure, Result.andThen_ok, Option.isSome]
    simp only [Bool.false_eq_true, if_false]
    rw [run_sliceBound (by omega)]; rfl
  · simp only [Instr.sliceBounds, Sem.run_bind, Sem.run_pure, Result.andThen_ok, Option.isSome]
    simp only [Bool.false_eq_true, if_false]
    rw [run_sliceBound (by omega)]
    simp only [Result.andThen_ok]
    rw [run_sliceBound (by omega)]; rfl

theorem map_ev_ok {n : Nat} {c : Ctx} {st : St} {a : Act} {w : World} (hst : RelSt n c st a w) (o : Option Operand) :
    (∀ x, o.map st.ev = some x → ∃ y, o.map a.eval = some y ∧ RelV c x y) ∧ (o.map st.ev = none → o.map a.eval = none) := by
  cases o with
  | none => exact ⟨fun x h => (by cases h), fun _ => rfl⟩
  | some o => exact ⟨fun x (h : some (st.ev o) = some x) => (by injection h with h; rw [← h]; exact ⟨_, rfl, hst.ev o⟩), fun h => (by simp at h)⟩

theorem vSlice_ok (hE : EnvOk P E) {T : TypeId} {st : St} {X : AVal} {lo hi : Option Operand} {k : AVal → Prop} (hk : vSlice E T X (lo.map st.ev) (hi.map st.ev) k)
    {n : Nat} {c : Ctx} {a : Act} {w : World} (hst : RelSt n c st a w) {u : Value} (hx : RelV c X u) :
    ∃ z r, (Instr.sliceAt T u (lo.map a.eval) (hi.map a.eval) none).run P w = .ok z w ∧ RelV c r z ∧ k r := by
  obtain ⟨hlo1, hlo2⟩ := map_ev_ok hst lo
  obtain ⟨hhi1, hhi2⟩ := map_ev_ok hst hi
  unfold vSlice at hk
  split at hk
  · rename_i s hT
    have e1 := hx.v_inv; subst e1
    obtain ⟨l, hl, hk⟩ : ∃ l, ((lo.map a.eval = none ∧ l = 0) ∨ ∃ kk, lo.map a.eval = some (.int kk l)) ∧ bnd (hi.map st.ev) s.size fun h => (0 ≤ l ∧ l ≤ h ∧ h ≤ s.size) ∧ k (.v (.string (strCut s l.toNat h.toNat))) := by
      rcases bnd_ok hk hlo1 hlo2 with ⟨h1, h2⟩ | ⟨kk, m, h1, h2⟩
      · exact ⟨0, .inl ⟨h1, rfl⟩, h2⟩
      · exact ⟨m, .inr ⟨kk, h1⟩, h2⟩
    obtain ⟨h, hh, hb, hk⟩ : ∃ h : Int, ((hi.map a.eval = none ∧ h = s.size) ∨ ∃ kk, hi.map a.eval = some (.int kk h)) ∧ (0 ≤ l ∧ l ≤ h ∧ h ≤ s.size) ∧ k (.v (.string (strCut s l.toNat h.toNat))) := by
      rcases bnd_ok hk hhi1 hhi2 with ⟨h1, h2⟩ | ⟨kk, m, h1, h2⟩
      · exact ⟨_, .inl ⟨h1, rfl⟩, h2⟩
      · exact ⟨m, .inr ⟨kk, h1⟩, h2⟩
    refine ⟨_, _, ?_, .v _, hk⟩
    simp only [Instr.sliceAt, Sem.run_bind, run_underlying (hE.knd _ _ hT), Result.andThen_ok, Instr.slice, Option.isSome, Bool.false_eq_true, if_false]
    rw [run_sliceBounds l h hl hh hb (Nat.le_refl _)]
    rfl
  · rename_i e' e xs hT
    obtain ⟨et, i, z, t1, t2, t3, t4, t5, t6⟩ := hE.sl _ _ hT
    cases hx with
    | @rd _ _ ad cp n' g hl hcp ha hr =>
      subst hl
      obtain ⟨l, hl, hk⟩ : ∃ l, ((lo.map a.eval = none ∧ l = 0) ∨ ∃ kk, lo.map a.eval = some (.int kk l)) ∧ bnd (hi.map st.ev) xs.length fun h => e' = e ∧ (0 ≤ l ∧ l ≤ h ∧ h ≤ xs.length) ∧ k (.rd e ((xs.drop l.toNat).take (h.toNat - l.toNat))) := by
        rcases bnd_ok hk hlo1 hlo2 with ⟨h1, h2⟩ | ⟨kk, m, h1, h2⟩
        · exact ⟨0, .inl ⟨h1, rfl⟩, h2⟩
        · exact ⟨m, .inr ⟨kk, h1⟩, h2⟩
      obtain ⟨h, hh, rfl, hb, hk⟩ : ∃ h : Int, ((hi.map a.eval = none ∧ h = xs.length) ∨ ∃ kk, hi.map a.eval = some (.int kk h)) ∧ e' = e ∧ (0 ≤ l ∧ l ≤ h ∧ h ≤ xs.length) ∧ k (.rd e ((xs.drop l.toNat).take (h.toNat - l.toNat))) := by
        rcases bnd_ok hk hhi1 hhi2 with ⟨h1, h2⟩ | ⟨kk, m, h1, h2⟩
        · exact ⟨_, .inl ⟨h1, rfl⟩, h2⟩
        · exact ⟨m, .inr ⟨kk, h1⟩, h2⟩
      have hlen : ((xs.drop l.toNat).take (h.toNat - l.toNat)).length = h.toNat - l.toNat := by simp; omega
      refine ⟨.slice (if cp = l.toNat then ad else ad.map (·.add (l.toNat * i.size))) (h.toNat - l.toNat) (cp - l.toNat), _, ?_, ?_, hk⟩
      · simp only [Instr.sliceAt, Sem.run_bind, run_underlying t1, Result.andThen_ok, Instr.slice]
        rw [run_sliceBounds l h hl hh hb hcp]
        simp only [Result.andThen_ok, Sem.run_bind, run_sizeOf t2]
        rfl
      · refine .rd (fun p q => g (l.toNat + p) q) hlen (by omega) (fun hpos => ?_) (fun p q hp hq => ?_)
        · obtain ⟨b, o, cells, T', fr, rfl, hs, hc⟩ := ha (by omega)
          have hne : ¬ cp = l.toNat := by omega
          refine ⟨b, o + l.toNat * e'.sz, cells, T', fr, ?_, hs, fun p q hp hq => ?_⟩
          · rw [if_neg hne, t3]; simp [addr_add]
          · have := hc (l.toNat + p) q (by omega) hq
            rwa [Nat.add_mul, ← Nat.add_assoc] at this
        · have := hr (l.toNat + p) q (by omega) hq
          have e1 : ((xs.drop l.toNat).take (h.toNat - l.toNat)).getD p e'.d = xs.getD (l.toNat + p) e'.d := by simp [List.getD, hp]
          rw [e1]; exact this
  · rename_i e sz id off m hT
    obtain ⟨et, i, z, t1, t2, t3, t4, t5, t6⟩ := hE.sl _ _ hT
    cases hx with
    | @sl _ _ _ _ b o ll hl' hn ha =>
      obtain ⟨l, hl, hk⟩ : ∃ l, ((lo.map a.eval = none ∧ l = 0) ∨ ∃ kk, lo.map a.eval = some (.int kk l)) ∧ bnd (hi.map st.ev) m fun h => e.sz = sz ∧ (0 ≤ l ∧ l ≤ h ∧ h ≤ m) ∧ k (.sl sz id (off + l.toNat) (h.toNat - l.toNat)) := by
        rcases bnd_ok hk hlo1 hlo2 with ⟨h1, h2⟩ | ⟨kk, m, h1, h2⟩
        · exact ⟨0, .inl ⟨h1, rfl⟩, h2⟩
        · exact ⟨m, .inr ⟨kk, h1⟩, h2⟩
      obtain ⟨h, hh, rfl, hb, hk⟩ : ∃ h : Int, ((hi.map a.eval = none ∧ h = m) ∨ ∃ kk, hi.map a.eval = some (.int kk h)) ∧ e.sz = sz ∧ (0 ≤ l ∧ l ≤ h ∧ h ≤ m) ∧ k (.sl sz id (off + l.toNat) (h.toNat - l.toNat)) := by
        rcases bnd_ok hk hhi1 hhi2 with ⟨h1, h2⟩ | ⟨kk, m, h1, h2⟩
        · exact ⟨_, .inl ⟨h1, rfl⟩, h2⟩
        · exact ⟨m, .inr ⟨kk, h1⟩, h2⟩
      have hrun : (Instr.sliceAt T (.slice (some ⟨b, o, none⟩) m (ll.cap - off)) (lo.map a.eval) (hi.map a.eval) none).run P w =
          .ok (.slice (if ll.cap - off = l.toNat then some ⟨b, o, none⟩ else some ⟨b, o + l.toNat * e.sz, none⟩) (h.toNat - l.toNat) (ll.cap - off - l.toNat)) w := by
        simp only [Instr.sliceAt, Sem.run_bind, run_underlying t1, Result.andThen_ok, Instr.slice]
        rw [run_sliceBounds l h hl hh hb (by omega)]
        simp only [Result.andThen_ok, Sem.run_bind, run_sizeOf t2, t3, Sem.run_pure, Option.map_some, addr_add]
      rw [hrun]
      have hcap : ll.cap - off - l.toNat = ll.cap - (off + l.toNat) := by omega
      by_cases hc : ll.cap - off = l.toNat
      · refine ⟨_, _, rfl, ?_, hk⟩
        rw [if_pos hc, hcap]
        exact .sl hl' (by omega) (fun h => absurd h (by omega))
      · refine ⟨_, _, rfl, ?_, hk⟩
        rw [if_neg hc, hcap]
        obtain ⟨rfl, rfl⟩ := ha (by omega)
        exact .sl hl' (by omega) (fun h => ⟨rfl, by rw [Nat.add_mul, Nat.add_assoc]⟩)
  · exact hk.elim

/-! ### append -/
/-- The elements that a slice bears. -/
def elems (e : ETy) (st : St) (x : AVal) (k : List e.T → Prop) : Prop :=
  match x with
  | .rd e' ys => if h : e' = e then k (h ▸ ys) else False
  | .sl sz id off m =>
    match st.get id with
    | .row _ e' ys => if h : e' = e then sz = e.sz ∧ off + m ≤ ys.length ∧ k (((h ▸ ys : List e.T).drop off).take m) else False
    | _ => False
  | .v (.slice none 0 0) => k []
  | _ => False

def vAppend (E : Env) (T : TypeId) (st : St) (x y : AVal) (k : AVal → List ABox → List ABox → Prop) : Prop :=
  match E.sl T with
  | none => False
  | some e => elems e st y fun ys =>
    match x with
    | .v (.slice none 0 0) => (0 < ys.length ∧ ys.length ≤ 1000000000) ∧ k (.sl e.sz st.next 0 ys.length) st.base (st.loc ++ [.row false e ys])
    | .sl sz id off m =>
      match st.get id with
      | .row false e' xs => if h : e' = e then sz = e.sz ∧ (off + m ≤ xs.length ∧ m + ys.length ≤ 1000000000) ∧
          st.setBox id .dead (fun b l => k (.sl e.sz st.next 0 (m + ys.length)) b (l ++ [.row false e (((h ▸ xs : List e.T).drop off).take m ++ ys)])) else False
      | _ => False
    | _ => False

/-- What 'elems' gives: the source's cells. -/
theorem elems_ok {T : TypeId} {e : ETy} {st : St} {Y : AVal} {k : List e.T → Prop} (hk : elems e st Y k) {n : Nat} {c : Ctx} {a : Act} {w : World} (hst : RelSt n c st a w) {v : Value} (hy : RelV c Y v) :
    ∃ ad m cp ys, v = .slice ad m cp ∧ ys.length = m ∧ k ys ∧ (ad = none → m = 0 ∧ cp = 0 ∨ m = 0) ∧
      ∃ news : List Value, news.length = m * e.sz ∧ (∀ b, ad = some b → ∀ j u, news[j]? = some u → w.cell? (b.add j) = some u) ∧ (0 < m → ad ≠ none) ∧
        ∀ i j, i < m → j < e.sz → RelV c ((e.enc (ys.getD i e.d)).getD j .junk) (news.getD (i * e.sz + j) undef) := by
  unfold elems at hk
  split at hk
  · rename_i e' ys
    split at hk
    · rename_i h; subst h
      cases hy with
      | @rd _ _ ad cp m g hl hcp ha hr =>
        refine ⟨ad, m, cp, ys, rfl, hl, hk, fun h => .inr ?_, (List.range (m * e'.sz)).map (fun q => g (q / e'.sz) (q % e'.sz)), by simp, fun b hb j u hj => ?_, fun hm => ?_, fun i j hi hj => ?_⟩
        · rcases Nat.eq_zero_or_pos m with h0 | h0
          · exact h0
          · obtain ⟨b, o, cells, T', fr, h1, _⟩ := ha h0; rw [h] at h1; cases h1
        · have hjl : j < m * e'.sz := by have := (List.getElem?_eq_some_iff.1 hj).1; simpa using this
          have hm0 : 0 < m := by
            rcases Nat.eq_zero_or_pos m with h0 | h0
            · subst h0; simp at hjl
            · exact h0
          obtain ⟨b', o, cells, T', fr, h1, h2, h3⟩ := ha hm0
          rw [h1] at hb; cases hb
          have hu : g (j / e'.sz) (j % e'.sz) = u := by simpa [hjl] using hj
          have hdiv : j / e'.sz < m := Nat.div_lt_of_lt_mul (by rw [Nat.mul_comm]; exact hjl)
          have hmod : j % e'.sz < e'.sz := Nat.mod_lt _ e'.sz_pos
          have hcell := h3 _ _ hdiv hmod
          have hj' : o + j / e'.sz * e'.sz + j % e'.sz = o + j := by rw [Nat.add_assoc, Nat.mul_comm (j / e'.sz), Nat.div_add_mod]
          rw [hj', hu] at hcell
          rw [addr_add]
          exact (cell_of_block (hst.heap.sealed _ _ h2) _).trans hcell
        · obtain ⟨b, o, cells, T', fr, h1, _⟩ := ha hm; rw [h1]; simp
        · have h1 : i * e'.sz + j < m * e'.sz := by
            have : i * e'.sz + e'.sz ≤ m * e'.sz := by rw [← Nat.succ_mul]; exact Nat.mul_le_mul_right _ hi
            omega
          have h2 : (i * e'.sz + j) / e'.sz = i := by rw [Nat.mul_comm, Nat.mul_add_div e'.sz_pos, Nat.div_eq_of_lt hj]; rfl
          have h3 : (i * e'.sz + j) % e'.sz = j := by rw [Nat.mul_comm, Nat.mul_add_mod]; exact Nat.mod_eq_of_lt hj
          have : ((List.range (m * e'.sz)).map (fun q => g (q / e'.sz) (q % e'.sz))).getD (i * e'.sz + j) undef = g i j := by simp [List.getD, h1, h2, h3]
          rw [this]; exact hr i j hi hj
    · exact hk.elim
  · rename_i sz id off m
    split at hk
    · rename_i ro e' ys hb
      split at hk
      · rename_i h; subst h
        obtain ⟨rfl, hle, hk⟩ := hk
        cases hy with
        | @sl _ _ _ _ b o ll hl hn ha =>
          obtain ⟨l', hl', hB⟩ := hst.heap.box id _ (St.get_some hb rfl) rfl
          rw [hl] at hl'; cases hl'
          have hf : ∃ f : Nat → Nat → Value, ∀ i j, i < ys.length → j < e'.sz → w.cell? ⟨ll.blk, ll.off + i * e'.sz + j, none⟩ = some (f i j) ∧ RelV c ((e'.enc (ys.getD i e'.d)).getD j .junk) (f i j) :=
            ⟨fun i j => (w.cell? ⟨ll.blk, ll.off + i * e'.sz + j, none⟩).getD undef, fun i j hi hj => by
              obtain ⟨u, h1, h2⟩ := hB.row_cells hi j (by rw [ETy.enc_length]; exact hj); simp only [h1]; exact ⟨rfl, h2⟩⟩
          obtain ⟨f, hf⟩ := hf
          refine ⟨_, m, _, (ys.drop off).take m, rfl, by simp; omega, hk, fun h => (by cases h), (List.range (m * e'.sz)).map (fun q => f (off + q / e'.sz) (q % e'.sz)), by simp, fun bb hbb j u hj => ?_, fun _ => by simp, fun i j hi hj => ?_⟩
          · cases hbb
            have hjl : j < m * e'.sz := by have := (List.getElem?_eq_some_iff.1 hj).1; simpa using this
            have hm0 : 0 < m := by
              rcases Nat.eq_zero_or_pos m with h0 | h0
              · subst h0; simp at hjl
              · exact h0
            obtain ⟨rfl, rfl⟩ := ha (by omega)
            have hu : f (off + j / e'.sz) (j % e'.sz) = u := by simpa [hjl] using hj
            have hdiv : j / e'.sz < m := Nat.div_lt_of_lt_mul (by rw [Nat.mul_comm]; exact hjl)
            have hmod : j % e'.sz < e'.sz := Nat.mod_lt _ e'.sz_pos
            have hcell := (hf (off + j / e'.sz) (j % e'.sz) (by omega) hmod).1
            have hj' : ll.off + (off + j / e'.sz) * e'.sz + j % e'.sz = ll.off + off * e'.sz + j := by
              rw [Nat.add_mul, ← Nat.add_assoc, Nat.add_assoc (ll.off + off * e'.sz), Nat.mul_comm (j / e'.sz), Nat.div_add_mod]
            rw [hj', hu] at hcell
            rw [addr_add]; exact hcell
          · have h1 : i * e'.sz + j < m * e'.sz := by
              have : i * e'.sz + e'.sz ≤ m * e'.sz := by rw [← Nat.succ_mul]; exact Nat.mul_le_mul_right _ hi
              omega
            have h2 : (i * e'.sz + j) / e'.sz = i := by rw [Nat.mul_comm, Nat.mul_add_div e'.sz_pos, Nat.div_eq_of_lt hj]; rfl
            have h3 : (i * e'.sz + j) % e'.sz = j := by rw [Nat.mul_comm, Nat.mul_add_mod]; exact Nat.mod_eq_of_lt hj
            have e1 : ((List.range (m * e'.sz)).map (fun q => f (off + q / e'.sz) (q % e'.sz))).getD (i * e'.sz + j) undef = f (off + i) j := by simp [List.getD, h1, h2, h3]
            have e2 : ((ys.drop off).take m).getD i e'.d = ys.getD (off + i) e'.d := by simp [List.getD, hi]
            rw [e1, e2]
            exact (hf (off + i) j (by omega) hj).2
      · exact hk.elim
    · exact hk.elim
  · have := hy.v_inv; subst this
    exact ⟨none, 0, 0, [], rfl, rfl, hk, fun _ => .inr rfl, [], by simp, fun b hb => (by cases hb), fun h => absurd h (by omega), fun i j hi => absurd hi (by omega)⟩
  · exact hk.elim

end Go.Eng

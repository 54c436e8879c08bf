/- The engine, part S: steps of a walk, said for simp; a box sealed. -/
import Derived.Test.YtlgagjboijkpgaaDoorEngR
set_option linter.unusedSimpArgs false
set_option linter.unusedVariables false
namespace Go.Eng
variable {P : Program} {E : Env}

theorem get_loc {N : Nat} {s : List (Nat × AVal)} {b l : List ABox} {j : Nat} : St.get ⟨N, s, b, l⟩ (b.length + j) = l.getD j .dead := by
  simp only [St.get, List.getD]
  rw [List.getElem?_append_right (by omega), Nat.add_sub_cancel_left]
theorem setBox_loc {N : Nat} {s : List (Nat × AVal)} {b l : List ABox} {j : Nat} {X : ABox} {K : List ABox → List ABox → Prop} : St.setBox ⟨N, s, b, l⟩ (b.length + j) X K = K b (l.set j X) := by
  have h1 : ¬ b.length + j < b.length := by omega
  simp only [St.setBox]
  rw [if_neg h1, Nat.add_sub_cancel_left]
theorem next_eq {N : Nat} {s : List (Nat × AVal)} {b l : List ABox} : St.next ⟨N, s, b, l⟩ = b.length + l.length := rfl
theorem getD_zero {α : Type} {x : α} {l : List α} {d : α} : (x :: l).getD 0 d = x := rfl
theorem getD_succ {α : Type} {x : α} {l : List α} {d : α} {n : Nat} : (x :: l).getD (n + 1) d = l.getD n d := rfl

/-- A call that leaves the boxes as they were. -/
theorem vCall_pure {f : FuncId} {args : List AVal} {N : Nat} {s : List (Nat × AVal)} {b l : List ABox} {x : AVal} {k : AVal → List ABox → List ABox → Prop}
    (h : AC P f args (b ++ l) (fun r H' => r = x ∧ H' = b ++ l)) (hk : k x b l) : vCall P (.fn f []) args ⟨N, s, b, l⟩ k := by
  show AC P f (args ++ []) (b ++ l) _
  rw [List.append_nil]
  exact h.mono fun r H' ⟨e1, e2⟩ => ⟨b, l, e2, rfl, e1 ▸ hk⟩
/-- A call that leaves new boxes. -/
theorem vCall_new {f : FuncId} {args : List AVal} {N : Nat} {s : List (Nat × AVal)} {b l new : List ABox} {x : AVal} {k : AVal → List ABox → List ABox → Prop}
    (h : AC P f args (b ++ l) (fun r H' => r = x ∧ H' = (b ++ l) ++ new)) (hk : k x b (l ++ new)) : vCall P (.fn f []) args ⟨N, s, b, l⟩ k := by
  show AC P f (args ++ []) (b ++ l) _
  rw [List.append_nil]
  exact h.mono fun r H' ⟨e1, e2⟩ => ⟨b, l ++ new, by rw [e2, List.append_assoc], rfl, e1 ▸ hk⟩

section
variable {n : Nat} {Q : Exit → St → Prop} {N : Nat} {sl : List (Nat × AVal)} {b l : List ABox}
theorem retQ_true {results : List ResultVar} {R : AVal → List ABox → Prop} {st : St} {x : AVal} (h : vRes E st results (fun l => packRes l = x ∧ ∃ r' H', FinOk n st x r' H' ∧ R r' H')) : retQ E n results R .ret st := by
  show vRes E st results _
  have mono : ∀ (rs : List ResultVar) (k1 k2 : List AVal → Prop), (∀ l, k1 l → k2 l) → vRes E st rs k1 → vRes E st rs k2 := by
    intro rs
    induction rs with
    | nil => exact fun k1 k2 h hk => h _ hk
    | cons r rs ih =>
      intro k1 k2 h hk
      cases r with
      | tmp t => exact ih _ _ (fun l hl => h _ hl) hk
      | cell t T =>
        obtain ⟨a, g1, g2⟩ := vLoad_det _ hk
        exact g2 _ (ih _ _ (fun l hl => h _ hl) g1)
  exact mono _ _ _ (fun l ⟨h1, h2⟩ => by rw [h1]; exact h2) h
end

theorem All2.cons {A : AVal → Prop} {As : List (AVal → Prop)} {l : List AVal} (h : All2 (A :: As) l) : ∃ a l', l = a :: l' ∧ A a ∧ All2 As l' := by
  cases l with
  | nil => exact h.elim
  | cons a l' => exact ⟨a, l', rfl, h.1, h.2⟩
theorem All2.nil {l : List AVal} (h : All2 [] l) : l = [] := by
  cases l with
  | nil => rfl
  | cons a l' => exact h.elim

/-! ### One operation after another -/
theorem vcL_nil {ops : List Oper} {st : St} {K : St → Prop} (h : K st) : vcL P E ops [] st K := h
theorem vcL_cons {ops : List Oper} {o : Oper} {rest : List Oper} {st : St} {K : St → Prop}
    (h : ∀ K' : St → Prop, (∀ st', vcL P E ops rest st' K → K' st') → vGuard ops o.guard st
      (dstOk st.N o.dst ∧ vcOp P E o.op st (fun r b l => K' (({ st with base := b, loc := l } : St).put o.dst r))) (dstOk st.N o.dst ∧ K' (st.put o.dst (.v undef)))) : vcL P E ops (o :: rest) st K :=
  h _ (fun _ h => h)

/-- No numbers in it. -/
inductive Plain : AVal → Prop where
  | v (x : Value) : Plain (.v x)
  | junk : Plain .junk
  | int (k : IntKind) (xs : List Int) : Plain (.rd (.int k) xs)
  | pt (xs : List (Int × Int)) : Plain (.rd .pt xs)
  | agg {cs : List AVal} (h : ∀ x ∈ cs, Plain x) : Plain (.agg cs)
  | tup {cs : List AVal} (h : ∀ x ∈ cs, Plain x) : Plain (.tup cs)
theorem Plain.ids {n : Nat} {a : AVal} (h : Plain a) : IdsLt n a := by
  have get : ∀ {cs : List AVal} {i : Nat}, i < cs.length → cs.getD i .junk ∈ cs := fun {cs i} hi => by
    simp only [List.getD, List.getElem?_eq_getElem hi, Option.getD_some]
    exact List.getElem_mem hi
  induction h with
  | v x => exact .v x
  | junk => exact .junk
  | int k xs => exact .rd (fun i j hi hj => by
      have : j = 0 := by simpa [ETy.sz] using hj
      subst this; exact .v _)
  | pt xs => exact .rd (fun i j hi hj => by
      have hj' : j < 2 := hj
      match j, hj' with
      | 0, _ => exact .v _
      | 1, _ => exact .v _)
  | agg h ih => exact .agg (fun i hi => ih _ (get hi))
  | tup h ih => exact .tup (fun i hi => ih _ (get hi))
theorem plain_nil : ∀ x ∈ ([] : List AVal), Plain x := fun x h => by simp at h
theorem plain_cons {a : AVal} {l : List AVal} (h : Plain a) (k : ∀ x ∈ l, Plain x) : ∀ x ∈ a :: l, Plain x := fun x hx => by
  rcases List.mem_cons.1 hx with rfl | hx
  · exact h
  · exact k x hx

/-! ### A box of the call's own, sealed: from here on it is a list -/
section
variable (k : Nat) (e : ETy) (xs : List e.T)
inductive SealV : AVal → AVal → Prop where
  | same (a : AVal) : SealV a a
  | junk (a : AVal) : SealV .junk a
  | sl {off m : Nat} (h : off + m ≤ xs.length) : SealV (.rd e ((xs.drop off).take m)) (.sl e.sz k off m)
  | agg {cs cs' : List AVal} (hl : cs'.length = cs.length) (h : ∀ i, i < cs.length → SealV (cs'.getD i .junk) (cs.getD i .junk)) : SealV (.agg cs') (.agg cs)
  | tup {cs cs' : List AVal} (hl : cs'.length = cs.length) (h : ∀ i, i < cs.length → SealV (cs'.getD i .junk) (cs.getD i .junk)) : SealV (.tup cs') (.tup cs)
inductive SealB : ABox → ABox → Prop where
  | dead (X : ABox) : SealB .dead X
  | same (X : ABox) : SealB X X
  | box {ro : Bool} {cs cs' : List AVal} (hl : cs'.length = cs.length) (h : ∀ i, i < cs.length → SealV k e xs (cs'.getD i .junk) (cs.getD i .junk)) : SealB (.box ro cs') (.box ro cs)
  | row {ro : Bool} {e' : ETy} {ys ys' : List e'.T} (hl : ys'.length = ys.length) (h : ∀ i j, i < ys.length → j < e'.sz → SealV k e xs ((e'.enc (ys'.getD i e'.d)).getD j .junk) ((e'.enc (ys.getD i e'.d)).getD j .junk)) : SealB (.row ro e' ys') (.row ro e' ys)
def SealL : List ABox → List ABox → Prop
  | [], [] => True
  | X' :: r', X :: r => SealB k e xs X' X ∧ SealL r' r
  | _, _ => False
def SealS (old : List (Nat × AVal)) : List (Nat × AVal) → Prop
  | [] => True
  | (t, a) :: r => SealV k e xs a (lk old t) ∧ SealS old r
end
theorem SealS.spec {k : Nat} {e : ETy} {xs : List e.T} {old : List (Nat × AVal)} : ∀ {sl : List (Nat × AVal)}, SealS k e xs old sl → ∀ t, SealV k e xs (lk sl t) (lk old t)
  | [], _, t => .junk _
  | (u, a) :: r, h, t => by
    rw [lk_put]
    by_cases eq : u = t
    · subst eq; rw [if_pos rfl]; exact h.1
    · rw [if_neg eq]; exact SealS.spec h.2 t
theorem SealL.spec {k : Nat} {e : ETy} {xs : List e.T} : ∀ {L' L : List ABox}, SealL k e xs L' L → L'.length = L.length ∧ ∀ i, i < L.length → SealB k e xs (L'.getD i .dead) (L.getD i .dead)
  | [], [], _ => ⟨rfl, fun i h => by simp at h⟩
  | [], _ :: _, h => h.elim
  | _ :: _, [], h => h.elim
  | X' :: r', X :: r, h => by
    obtain ⟨g1, g2⟩ := SealL.spec h.2
    refine ⟨by simp [g1], fun i hi => ?_⟩
    cases i with
    | zero => exact h.1
    | succ i => exact g2 i (by simpa using hi)
theorem SealB.live {k : Nat} {e : ETy} {xs : List e.T} {X' X : ABox} (h : SealB k e xs X' X) (hl : X'.live = true) : X.live = true := by
  cases h with
  | dead => cases hl
  | same => exact hl
  | box => rfl
  | row => rfl

theorem RelV.sealIt {k : Nat} {e : ETy} {xs : List e.T} {c c' : Ctx} {l : Loc} {cells : Array Value} {T : TypeId} {fr : Nat × Nat} (he : Ext c c') (hk : c.loc k = some l) (hs : c'.sealed l.blk = some (.cells cells T fr))
    (hx : ∀ i j, i < xs.length → j < e.sz → ∃ u, cells[l.off + i * e.sz + j]? = some u ∧ RelV c ((e.enc (xs.getD i e.d)).getD j .junk) u) {a' a : AVal} (h : SealV k e xs a' a) : ∀ {v : Value}, RelV c a v → RelV c' a' v := by
  induction h with
  | same a => intro v hv; exact hv.ext he
  | junk a => intro v hv; exact .junk v
  | @sl off m hle =>
    intro v hv
    cases hv with
    | @sl _ _ _ _ b o l2 hl hn ha =>
      rw [hk] at hl; cases hl
      have hlen : ((xs.drop off).take m).length = m := by simp; omega
      refine .rd (fun i j => cells.getD (l.off + (off + i) * e.sz + j) undef) hlen (by omega) (fun hp => ?_) (fun i j hi hj => ?_)
      · obtain ⟨rfl, rfl⟩ := ha (by omega)
        refine ⟨l.blk, l.off + off * e.sz, cells, T, fr, rfl, hs, fun i j hi hj => ?_⟩
        obtain ⟨u, hu, _⟩ := hx (off + i) j (by omega) hj
        have e1 : l.off + off * e.sz + i * e.sz + j = l.off + (off + i) * e.sz + j := by rw [Nat.add_mul]; omega
        rw [e1, hu]
        simp only [Array.getD_eq_getD_getElem?]
        rw [hu]; rfl
      · obtain ⟨u, hu, hr⟩ := hx (off + i) j (by omega) hj
        have e2 : ((xs.drop off).take m).getD i e.d = xs.getD (off + i) e.d := by
          simp [List.getD, hi]
        rw [e2]
        have e3 : cells.getD (l.off + (off + i) * e.sz + j) undef = u := by
          simp only [Array.getD_eq_getD_getElem?]
          rw [hu]; rfl
        rw [e3]; exact hr.ext he
  | agg hl h ih => intro v hv; cases hv with | agg hl' h' => exact .agg (hl.trans hl') (fun i hi => ih i (by omega) (h' i (by omega)))
  | tup hl h ih => intro v hv; cases hv with | tup hl' h' => exact .tup (hl.trans hl') (fun i hi => ih i (by omega) (h' i (by omega)))

theorem Weak.seal {n : Nat} {N : Nat} {sl sl' : List (Nat × AVal)} {b loc loc' : List ABox} (j : Nat) {e : ETy} {xs : List e.T} (hj : j < loc.length) (hX : loc.getD j .dead = .row false e xs) (hd : loc'.getD j .dead = .dead)
    (hL : SealL (b.length + j) e xs loc' loc) (hS : SealS (b.length + j) e xs sl sl') : Weak n ⟨N, sl, b, loc⟩ ⟨N, sl', b, loc'⟩ := by
  intro c a w hst
  have hn : b.length = n := hst.hn
  have hh := hst.heap
  have hg : (b ++ loc)[b.length + j]? = some (.row false e xs) := by
    rw [List.getElem?_append_right (by omega), Nat.add_sub_cancel_left]
    simp only [List.getD] at hX
    rw [List.getElem?_eq_getElem hj] at hX ⊢
    simpa using hX
  obtain ⟨l, hl, cells, T, h1, h2, h3, h4, h5⟩ := hh.box _ _ hg rfl
  have h2' : c.sealed l.blk = none := h2
  let c' : Ctx := { c with sealed := fun q => if q = l.blk then some (.cells cells T (0, 0)) else c.sealed q }
  have he : Ext c c' := ⟨⟨rfl, rfl, rfl, fun q o hq => by
    show (if q = l.blk then _ else c.sealed q) = some o
    by_cases eq : q = l.blk
    · rw [eq, h2'] at hq; cases hq
    · rw [if_neg eq]; exact hq⟩, fun _ _ h => h⟩
  have hs : c'.sealed l.blk = some (.cells cells T (0, 0)) := if_pos rfl
  have hval : ∀ {a' a : AVal} {v : Value}, SealV (b.length + j) e xs a' a → RelV c a v → RelV c' a' v := fun h hv => RelV.sealIt he hl hs h5 h hv
  obtain ⟨hlen, hspec⟩ := hL.spec
  have hother : ∀ (q : Nat) (X : ABox) (l' : Loc), (b ++ loc)[q]? = some X → X.live = true → q ≠ b.length + j → c.loc q = some l' → c'.sealed l'.blk = c.sealed l'.blk := fun q X l' hq hX' hne hl' => by
    refine if_neg fun eq => hne ?_
    exact hh.inj q (b.length + j) l' l X _ hq hX' hg rfl hl' hl eq
  have key : ∀ (q : Nat) (X' : ABox), (b ++ loc')[q]? = some X' → X'.live = true → ∃ X, (b ++ loc)[q]? = some X ∧ X.live = true ∧ q ≠ b.length + j ∧ (X' = X ∨ SealB (b.length + j) e xs X' X) := fun q X' hq hX' => by
    rcases Nat.lt_or_ge q b.length with g1 | g1
    · rw [List.getElem?_append_left g1] at hq
      exact ⟨X', by rw [List.getElem?_append_left g1]; exact hq, hX', by omega, .inl rfl⟩
    · rw [List.getElem?_append_right g1] at hq
      have hq' : q - b.length < loc.length := by rw [← hlen]; exact (List.getElem?_eq_some_iff.1 hq).1
      have hb := hspec _ hq'
      rw [show loc'.getD (q - b.length) .dead = X' by simp [List.getD, hq]] at hb
      refine ⟨_, by rw [List.getElem?_append_right g1, List.getElem?_eq_getElem hq'], ?_, fun eq => ?_, .inr ?_⟩
      · have := hb.live hX'
        rwa [List.getD, List.getElem?_eq_getElem hq'] at this
      · have : q - b.length = j := by omega
        rw [this] at hq
        rw [List.getD, hq] at hd
        simp at hd; rw [hd] at hX'; cases hX'
      · rwa [List.getD, List.getElem?_eq_getElem hq'] at hb
  refine ⟨c', he.toB n, hst.defers, hst.size, fun t => hval (hS.spec t) (hst.slots t), ⟨hh.os, hh.tape, hh.output, fun q o hq => ?_, fun q hq => ?_, fun q X' hq hX' => ?_, ?_⟩, hn⟩
  · by_cases eq : q = l.blk
    · rw [eq, hs] at hq; cases hq; rw [eq]; exact h1
    · exact hh.sealed q o (by have := hq; rwa [show c'.sealed q = c.sealed q from if_neg eq] at this)
  · exact hh.dom q (by simp at hq ⊢; omega)
  · obtain ⟨X, g1, g2, g3, g4⟩ := key q X' hq hX'
    obtain ⟨l', hl', hB⟩ := hh.box q X g1 g2
    have hsame := hother q X l' g1 g2 g3 hl'
    refine ⟨l', hl', ?_⟩
    have hcarry : RelB c' w l' X := hB.carry he (fun _ => rfl) (fun _ => hsame)
    rcases g4 with rfl | g4
    · exact hcarry
    · cases g4 with
      | dead => cases hX'
      | same => exact hcarry
      | box hl2 hv =>
        obtain ⟨cells', T', k1, k2, k3⟩ := hB
        refine ⟨cells', T', k1, ?_, fun i hi => ?_⟩
        · unfold modeOk at *; rw [hsame]; exact k2
        · obtain ⟨u, hu, hr⟩ := k3 i (by omega); exact ⟨u, hu, hval (hv i (by omega)) hr⟩
      | row hl2 hv =>
        obtain ⟨cells', T', k1, k2, k3, k4, k5⟩ := hB
        refine ⟨cells', T', k1, ?_, k3, by omega, fun i j hi hj => ?_⟩
        · unfold modeOk at *; rw [hsame]; exact k2
        · obtain ⟨u, hu, hr⟩ := k5 i j (by omega) hj; exact ⟨u, hu, hval (hv i j (by omega) hj) hr⟩
  · intro q q' l1 l2 X1 X2 hq hX1 hq' hX2 hl1 hl2 hb
    obtain ⟨Y1, g1, g2, _⟩ := key q X1 hq hX1
    obtain ⟨Y2, g1', g2', _⟩ := key q' X2 hq' hX2
    exact hh.inj q q' l1 l2 Y1 Y2 g1 g2 g1' g2' hl1 hl2 hb

end Go.Eng

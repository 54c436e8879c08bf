/- The engine, part ZA: all that a caller has, lent: sealed for the length of a call. -/
import Derived.Test.YtlgagjboijkpgaaDoorEngZ
set_option linter.unusedSimpArgs false
set_option linter.unusedVariables false
namespace Go.Eng
variable {P : Program} {E : Env}

def killAll (H : List ABox) : List ABox := H.map fun _ => .dead
theorem killAll_length (H : List ABox) : (killAll H).length = H.length := by simp [killAll]
theorem killAll_get {H : List ABox} {k : Nat} {Z : ABox} (h : (killAll H)[k]? = some Z) : Z.live = false := by
  unfold killAll at h
  rw [List.getElem?_map, Option.map_eq_some_iff] at h
  obtain ⟨Y, hY, he⟩ := h
  subst he; rfl
/-- What is lent, as the callee sees it. -/
inductive LentV (H : List ABox) : AVal → AVal → Prop where
  | same (a : AVal) : LentV H a a
  | sl {ro : Bool} {e : ETy} {xs : List e.T} {k off m : Nat} (h : H[k]? = some (.row ro e xs)) (hm : off + m ≤ xs.length) : LentV H (.sl e.sz k off m) (.rd e ((xs.drop off).take m))
  | box {ro : Bool} {cs cs' : List AVal} {sz k j : Nat} (h : H[k]? = some (.box ro cs)) (hl : cs'.length = cs.length) (hc : ∀ i, i < cs.length → LentV H (cs.getD i .junk) (cs'.getD i .junk)) : LentV H (.ptr sz k 0 j) (.rp cs' j)
  | agg {cs cs' : List AVal} (hl : cs'.length = cs.length) (h : ∀ i, i < cs.length → LentV H (cs.getD i .junk) (cs'.getD i .junk)) : LentV H (.agg cs) (.agg cs')
  | nil (e : ETy) : LentV H (.v (.slice none 0 0)) (.rd e [])
  | tr {a b d : AVal} (h : LentV H a b) (k : b = d) : LentV H a d
  | own {ro : Bool} {kk : IntKind} {os : List (Option (Nat × Nat))} {xss : List (List Int)} {k m : Nat} (h : H[k]? = some (.row ro (.own kk) os)) (hm : m = os.length) (hl : xss.length = os.length)
      (hi : ∀ i, i < os.length → ∃ id ro', os.getD i none = some (id, (xss.getD i []).length) ∧ H[id]? = some (.row ro' (.int kk) (xss.getD i []))) : LentV H (.sl 1 k 0 m) (.rd (.sli kk) xss)
def LentL (H : List ABox) : List AVal → List AVal → Prop
  | [], [] => True
  | a :: r, a' :: r' => LentV H a a' ∧ LentL H r r'
  | _, _ => False
theorem LentL.spec {H : List ABox} : ∀ {l l' : List AVal}, LentL H l l' → l'.length = l.length ∧ ∀ i, i < l.length → LentV H (l.getD i .junk) (l'.getD i .junk)
  | [], [], _ => ⟨rfl, fun i h => by simp at h⟩
  | [], _ :: _, h => h.elim
  | _ :: _, [], h => h.elim
  | a :: r, a' :: r', h => by
    obtain ⟨g1, g2⟩ := LentL.spec h.2
    refine ⟨by simp [g1], fun i hi => ?_⟩
    cases i with
    | zero => exact h.1
    | succ i => exact g2 i (by simpa using hi)

theorem lent_slice {c : Ctx} {H : List ABox} {w : World} (hh : RelH c H w) {c' : Ctx} (he : Ext c c')
    (hs : ∀ k Z l, H[k]? = some Z → Z.live = true → c.loc k = some l → c'.sealed l.blk = w.heap[l.blk]?) {ro : Bool} {e : ETy} {xs : List e.T} {k off m : Nat} (hk : H[k]? = some (.row ro e xs)) (hm : off + m ≤ xs.length) :
    ∀ {u : Value}, RelV c (.sl e.sz k off m) u → RelV c' (.rd e ((xs.drop off).take m)) u := by
  intro u hu
  cases hu with
  | @sl _ _ _ _ b o l hl hn ha =>
    obtain ⟨l2, hl2, cells, T, h1, h2, h3, h4, h5⟩ := hh.box k _ hk rfl
    rw [hl] at hl2; cases hl2
    have hsl := hs k _ l hk rfl hl
    rw [h1] at hsl
    have hlen : ((xs.drop off).take m).length = m := by simp; omega
    refine .rd (fun i j => cells.getD (l.off + (off + i) * e.sz + j) undef) hlen (by omega) (fun hp => ?_) (fun i j hi hj => ?_)
    · obtain ⟨rfl, rfl⟩ := ha (by omega)
      refine ⟨l.blk, l.off + off * e.sz, cells, T, (0, 0), rfl, hsl, fun i j hi hj => ?_⟩
      obtain ⟨u, hu, _⟩ := h5 (off + i) j (by omega) hj
      have e1 : l.off + off * e.sz + i * e.sz + j = l.off + (off + i) * e.sz + j := by rw [Nat.add_mul]; omega
      rw [e1, hu]
      simp only [Array.getD_eq_getD_getElem?]
      rw [hu]; rfl
    · obtain ⟨u, hu, hr⟩ := h5 (off + i) j (by omega) hj
      have e2 : ((xs.drop off).take m).getD i e.d = xs.getD (off + i) e.d := by
        simp [List.getD, hi]
      rw [e2]
      have e3 : cells.getD (l.off + (off + i) * e.sz + j) undef = u := by
        simp only [Array.getD_eq_getD_getElem?]
        rw [hu]; rfl
      rw [e3]; exact hr.ext he
theorem lent_rel {c : Ctx} {H : List ABox} {w : World} (hh : RelH c H w) {c' : Ctx} (he : Ext c c')
    (hs : ∀ k Z l, H[k]? = some Z → Z.live = true → c.loc k = some l → c'.sealed l.blk = w.heap[l.blk]?) {a a' : AVal} (h : LentV H a a') : ∀ {u : Value}, RelV c a u → RelV c' a' u := by
  induction h with
  | same a => intro u hu; exact hu.ext he
  | @sl ro e xs k off m hk hm => exact fun hu => lent_slice hh he hs hk hm hu
  | @own ro kk os xss k m hk hm hl hi =>
    intro u hu
    subst hm
    have h1 := lent_slice hh he hs hk (off := 0) (m := os.length) (by omega) hu
    simp only [List.drop_zero, List.take_length] at h1
    cases hu with
    | @sl _ _ _ _ b o l hlo hn ha =>
      obtain ⟨l2, hl2, cells, T, g1, g2, g3, g4, g5⟩ := hh.box k _ hk rfl
      rw [hlo] at hl2; cases hl2
      have hsl := hs k _ l hk rfl hlo
      rw [g1] at hsl
      have cell : ∀ i, i < os.length → cells[l.off + i]? = some (cells.getD (l.off + i) undef) ∧ RelV c' (.rd (.int kk) (xss.getD i [])) (cells.getD (l.off + i) undef) := fun i hi' => by
        obtain ⟨u, hu, hr⟩ := g5 i 0 hi' Nat.one_pos
        simp only [ETy.sz, Nat.mul_one, Nat.add_zero] at hu
        have e3 : cells.getD (l.off + i) undef = u := by
          simp only [Array.getD_eq_getD_getElem?]
          rw [hu]; rfl
        rw [e3]
        refine ⟨hu, ?_⟩
        obtain ⟨id, ro', h2, h3⟩ := hi i hi'
        have h2' : os.getD i (ETy.d (.own kk)) = some (id, (xss.getD i []).length) := h2
        rw [h2'] at hr
        have := lent_slice hh he hs h3 (off := 0) (m := (xss.getD i []).length) (by omega) (u := u) hr
        simpa using this
      refine .rd (fun i j => cells.getD (l.off + i + j) undef) hl (by omega) (fun hp => ?_) (fun i j hi' hj => ?_)
      · obtain ⟨rfl, rfl⟩ := ha (by omega)
        refine ⟨l.blk, l.off, cells, T, (0, 0), by simp, hsl, fun i j hi' hj => ?_⟩
        have hj0 : j = 0 := by simpa [ETy.sz] using hj
        subst hj0
        simp only [ETy.sz, Nat.mul_one, Nat.add_zero]
        exact (cell i hi').1
      · have hj0 : j = 0 := by simpa [ETy.sz] using hj
        subst hj0
        exact (cell i hi').2
  | @box ro cs cs' sz k j hk hl hc ih =>
    intro u hu
    cases hu with
    | @ptr _ _ _ _ l hlo =>
      obtain ⟨l2, hl2, cells, T, h1, h2, h3⟩ := hh.box k _ hk rfl
      rw [hlo] at hl2; cases hl2
      have hsl := hs k _ l hk rfl hlo
      rw [h1] at hsl
      have key : ∀ i, i < cs.length → cells[l.off + i]? = some (cells.getD (l.off + i) undef) ∧ RelV c (cs.getD i .junk) (cells.getD (l.off + i) undef) := fun i hi => by
        obtain ⟨u, hu, hr⟩ := h3 i hi
        have e3 : cells.getD (l.off + i) undef = u := by
          simp only [Array.getD_eq_getD_getElem?]
          rw [hu]; rfl
        rw [e3]; exact ⟨hu, hr⟩
      have := RelV.rp (c := c') (cs := cs') (j := j) (b := l.blk) (o := l.off) (fun i => cells.getD (l.off + i) undef) hsl (fun i hi => (key i (by omega)).1) (fun i hi => ih i (by omega) (key i (by omega)).2)
      simpa using this
  | agg hl h ih => intro u hu; cases hu with | agg h1 h2 => exact .agg (hl.trans h1) (fun i hi => ih i (by omega) (h2 i (by omega)))
  | nil e =>
    intro u hu; cases hu
    exact .rd (fun _ _ => undef) rfl (Nat.le_refl _) (fun h => absurd h (by omega)) (fun i j h => absurd h (by omega))
  | tr h k ih => intro u hu; exact k ▸ ih hu

theorem NoRdW.unsealed {c : Ctx} {w : World} {l : Loc} : ∀ {Z : ABox}, Z.live = true → NoRdW Z → RelB c w l Z → c.sealed l.blk = none
  | .dead, h, _, _ => by cases h
  | .box ro cs, _, h2, hB => by
    obtain ⟨cells, T, g1, g2, _⟩ := hB
    rw [h2.1] at g2
    exact g2
  | .row ro e xs, _, h2, hB => by
    obtain ⟨cells, T, g1, g2, _⟩ := hB
    rw [h2.1] at g2
    exact g2
  | .map kk es, _, _, hB => hB.2
  | .iter m s l, _, _, hB => hB.2
  | .tab _ _, _, h, _ => h.elim

/-- A CALL TO WHICH ALL IS LENT: the callee sees its caller's memory sealed. -/
theorem AC.lentE {ι : Type} {F : ι → AVal} {N : ι → List ABox} {Φ : ι → Prop} {f : FuncId} {args args' : List AVal} {H : List ABox} (ha : LentL H args args') (hX : ∀ x, Φ x → NoRd (F x)) (hnew : ∀ x, Φ x → ∀ Z ∈ N x, NoRdW Z)
    (h : AC P f args' (killAll H) (fun r H' => ∃ x, Φ x ∧ r = F x ∧ H' = killAll H ++ N x)) : AC P f args H (fun r H' => ∃ x, Φ x ∧ r = F x ∧ H' = H ++ N x) := by
  refine ⟨h.1, fun c vs w hv hh => ?_⟩
  let isK : Nat → Prop := fun b => (∃ k Z l, H[k]? = some Z ∧ Z.live = true ∧ c.loc k = some l ∧ l.blk = b) ∧ c.sealed b = none
  have decK : ∀ b, Decidable (isK b) := fun b => Classical.propDecidable _
  let c' : Ctx := { c with sealed := fun b => @ite _ (isK b) (decK b) (w.heap[b]?) (c.sealed b) }
  have sK : ∀ b, isK b → c'.sealed b = w.heap[b]? := fun b hb => if_pos hb
  have sN : ∀ b, ¬ isK b → c'.sealed b = c.sealed b := fun b hb => if_neg hb
  have he : Ext c c' := ⟨⟨rfl, rfl, rfl, fun b o ho => by
    by_cases hb : isK b
    · rw [hb.2] at ho; cases ho
    · rw [sN b hb]; exact ho⟩, fun _ _ h => h⟩
  -- every live box's block is sealed now, and holds what it holds
  have hs : ∀ k Z l, H[k]? = some Z → Z.live = true → c.loc k = some l → c'.sealed l.blk = w.heap[l.blk]? := fun k Z l hk hZ hl => by
    by_cases hb : isK l.blk
    · exact sK _ hb
    · rw [sN _ hb]
      cases hc : c.sealed l.blk with
      | none => exact absurd ⟨⟨k, Z, l, hk, hZ, hl, rfl⟩, hc⟩ hb
      | some o => exact (hh.sealed _ _ hc).symm
  have hsome : ∀ k Z l, H[k]? = some Z → Z.live = true → c.loc k = some l → ∃ o, w.heap[l.blk]? = some o := fun k Z l hk hZ hl => by
    obtain ⟨l', hl', hB⟩ := hh.box k Z hk hZ
    rw [hl] at hl'; cases hl'
    exact ⟨_, Array.getElem?_eq_getElem (hB.blk_lt hZ)⟩
  have hh' : RelH c' (killAll H) w := by
    refine ⟨hh.os, hh.tape, hh.output, fun b o ho => ?_, fun k hk => hh.dom k (by rwa [killAll_length] at hk), fun k Z hk hZ => ?_, ?_⟩
    · by_cases hb : isK b
      · rw [sK b hb] at ho; exact ho
      · rw [sN b hb] at ho; exact hh.sealed b o ho
    · rw [killAll_get hk] at hZ; cases hZ
    · intro k k' l l' Z Z' hk hZ hk' hZ' hl hl' hb
      rw [killAll_get hk] at hZ; cases hZ
  obtain ⟨hal, hag⟩ := ha.spec
  have hv' : RelCs c' args' vs := ⟨hv.1.trans hal.symm, fun i hi => lent_rel hh he hs (hag i (by omega)) (hv.2 i (by omega))⟩
  refine (h.2 c' vs w hv' hh').mono ?_
  rintro e w' ⟨c2, r, v, H', he2, rfl, hr, hh2, x, hx, rfl, rfl⟩
  let c3 : Ctx := { c2 with sealed := fun b => @ite _ (isK b) (decK b) none (c2.sealed b) }
  have tK : ∀ b, isK b → c3.sealed b = none := fun b hb => if_pos hb
  have tN : ∀ b, ¬ isK b → c3.sealed b = c2.sealed b := fun b hb => if_neg hb
  have he3 : Ext c c3 := ⟨⟨he2.os, he2.tape, he2.output, fun b o ho => by
    by_cases hb : isK b
    · rw [hb.2] at ho; cases ho
    · rw [tN b hb]; exact he2.sealed b o (he.sealed b o ho)⟩, fun k l hl => he2.loc k l hl⟩
  have lowloc : ∀ (k : Nat) (Z : ABox) (l : Loc), H[k]? = some Z → Z.live = true → c2.loc k = some l → c.loc k = some l := fun k Z l hk hZ hl => by
    obtain ⟨l', hl', _⟩ := hh.box k Z hk hZ
    have := he2.loc k l' hl'
    rw [hl] at this; cases this; exact hl'
  have kept : ∀ (k : Nat) (Z : ABox) (l : Loc), H[k]? = some Z → Z.live = true → c.loc k = some l → w'.heap[l.blk]? = w.heap[l.blk]? ∧ c2.sealed l.blk ≠ none ∧ c3.sealed l.blk = c.sealed l.blk := fun k Z l hk hZ hl => by
    obtain ⟨o, ho⟩ := hsome k Z l hk hZ hl
    have h1 := hs k Z l hk hZ hl
    rw [ho] at h1
    have h2 := he2.sealed _ _ h1
    refine ⟨by rw [hh2.sealed _ _ h2, ho], by rw [h2]; simp, ?_⟩
    by_cases hb : isK l.blk
    · rw [tK _ hb, hb.2]
    · rw [tN _ hb, h2]
      rw [sN _ hb] at h1
      exact h1.symm
  have split : ∀ (k : Nat) (Z : ABox), (H ++ N x)[k]? = some Z → Z.live = true → H[k]? = some Z ∨ ((killAll H ++ N x)[k]? = some Z ∧ NoRdW Z) := fun k Z hk hZ => by
    rcases Nat.lt_or_ge k H.length with h1 | h1
    · rw [List.getElem?_append_left h1] at hk
      exact .inl hk
    · rw [List.getElem?_append_right h1] at hk
      exact .inr ⟨by rw [List.getElem?_append_right (by rw [killAll_length]; exact h1), killAll_length]; exact hk, hnew x hx Z (List.mem_of_getElem? hk)⟩
  have nk : ∀ (Z : ABox) (l : Loc), Z.live = true → NoRdW Z → RelB c2 w' l Z → ¬ isK l.blk := fun Z l hZ hw hB hb => by
    obtain ⟨⟨k, Y, l', h1, h2, h3, h4⟩, _⟩ := hb
    have := (kept k Y l' h1 h2 h3).2.1
    rw [h4] at this
    exact this (hw.unsealed hZ hB)
  refine ⟨c3, _, v, _, he3, rfl, (hX x hx).move (c := c2) (c' := c3) rfl hr, ⟨hh2.os, hh2.tape, hh2.output, fun b o ho => ?_, fun k hk => ?_, fun k Z hk hZ => ?_, ?_⟩, x, hx, rfl, rfl⟩
  · by_cases hb : isK b
    · rw [tK b hb] at ho; cases ho
    · rw [tN b hb] at ho; exact hh2.sealed b o ho
  · exact hh2.dom k (by simpa [killAll_length] using hk)
  · rcases split k Z hk hZ with h1 | ⟨h1, h2⟩
    · obtain ⟨l, hl, hB⟩ := hh.box k Z h1 hZ
      obtain ⟨g1, g2, g3⟩ := kept k Z l h1 hZ hl
      exact ⟨l, he3.loc k l hl, hB.carry he3 (fun _ => g1) (fun _ => g3)⟩
    · obtain ⟨l, hl, hB⟩ := hh2.box k Z h1 hZ
      exact ⟨l, hl, hB.move (c := c2) (c' := c3) h2.b rfl (fun _ => tN _ (nk Z l hZ h2 hB))⟩
  · intro k k' l l' Z Z' hk hZ hk' hZ' hl hl' hb
    have apart : ∀ (k k' : Nat) (Z Z' : ABox) (l l' : Loc), H[k]? = some Z → Z.live = true → (killAll H ++ N x)[k']? = some Z' → NoRdW Z' → Z'.live = true → c3.loc k = some l → c3.loc k' = some l' → l.blk ≠ l'.blk := fun k k' Z Z' l l' h1 hZ h1' h2' hZ' hl hl' hb => by
      obtain ⟨m, hm, hB⟩ := hh2.box k' Z' h1' hZ'
      have hm' : c2.loc k' = some l' := hl'
      rw [hm'] at hm; cases hm
      have := (kept k Z l h1 hZ (lowloc k Z l h1 hZ hl)).2.1
      rw [hb] at this
      exact this (h2'.unsealed hZ' hB)
    rcases split k Z hk hZ with h1 | ⟨h1, h2⟩ <;> rcases split k' Z' hk' hZ' with h1' | ⟨h1', h2'⟩
    · exact hh.inj k k' l l' Z Z' h1 hZ h1' hZ' (lowloc k Z l h1 hZ hl) (lowloc k' Z' l' h1' hZ' hl') hb
    · exact absurd hb (apart k k' Z Z' l l' h1 hZ h1' h2' hZ' hl hl')
    · exact absurd hb.symm (apart k' k Z' Z l' l h1' hZ' h1 h2 hZ hl' hl)
    · exact hh2.inj k k' l l' Z Z' h1 hZ h1' hZ' hl hl' hb
theorem AC.lentN {f : FuncId} {args args' : List AVal} {H new : List ABox} {X X' : AVal} (hXX : X = X') (ha : LentL H args args') (hX : NoRd X) (hnew : ∀ Z ∈ new, NoRdW Z)
    (h : AC P f args' (killAll H) (fun r H' => r = X ∧ H' = killAll H ++ new)) : AC P f args H (fun r H' => r = X' ∧ H' = H ++ new) := by
  subst hXX
  refine (AC.lentE (ι := Unit) (F := fun _ => X) (N := fun _ => new) (Φ := fun _ => True) ha (fun _ _ => hX) (fun _ _ => hnew) (h.mono fun r H' ⟨e1, e2⟩ => ⟨(), trivial, e1, e2⟩)).mono ?_
  rintro r H' ⟨_, _, e1, e2⟩
  exact ⟨e1, e2⟩
theorem AC.lent0 {f : FuncId} {args args' : List AVal} {H : List ABox} {X : AVal} (ha : LentL H args args') (hX : NoRd X)
    (h : AC P f args' (killAll H) (fun r H' => r = X ∧ H' = killAll H)) : AC P f args H (fun r H' => r = X ∧ H' = H) := by
  have := AC.lentN (new := []) rfl ha hX (fun Z hZ => by simp at hZ) (h.mono fun r H' ⟨e1, e2⟩ => ⟨e1, by rw [e2, List.append_nil]⟩)
  exact this.mono fun r H' ⟨e1, e2⟩ => ⟨e1, by rw [e2, List.append_nil]⟩
theorem RelB.carryB {n : Nat} {c c' : Ctx} {w : World} {l : Loc} {X : ABox} (h : RelB c w l X) (he : ExtB n c c') (hlt : BoxLt n X) (hs : X.live = true → c'.sealed l.blk = c.sealed l.blk) : RelB c' w l X := by
  cases X with
  | dead => trivial
  | box ro cs =>
    obtain ⟨cells, T, h1, h2, h3⟩ := h
    refine ⟨cells, T, h1, ?_, fun j hj => ?_⟩
    · unfold modeOk at *; rw [hs rfl]; exact h2
    · obtain ⟨u, hu, hr⟩ := h3 j hj; exact ⟨u, hu, hr.extB he (hlt j hj)⟩
  | row ro e xs =>
    obtain ⟨cells, T, h1, h2, h3, h4, h5⟩ := h
    refine ⟨cells, T, h1, ?_, h3, h4, fun i j hi hj => ?_⟩
    · unfold modeOk at *; rw [hs rfl]; exact h2
    · obtain ⟨u, hu, hr⟩ := h5 i j hi hj; exact ⟨u, hu, hr.extB he (hlt i j hi hj)⟩
  | map kk es => exact ⟨h.1, (hs rfl).trans h.2⟩
  | iter m since seen =>
    obtain ⟨⟨lm, h1, h2⟩, h3⟩ := h
    exact ⟨⟨lm, he.loc _ _ hlt h1, h2⟩, (hs rfl).trans h3⟩
  | tab g o => exact ⟨h.1, (hs rfl).trans h.2.1, h.2.2⟩
/-- What a call hands over of its own, sealed for good. -/
theorem AC.sealN {f : FuncId} {args : List AVal} {H new : List ABox} {X X' : AVal} (ha : LentV (killAll H ++ new) X X') (hX : IdsLt H.length X')
    (h : AC P f args H (fun r H' => r = X ∧ H' = H ++ new)) : AC P f args H (fun r H' => r = X' ∧ H' = H) := by
  refine ⟨h.1, fun c vs w hv hh => (h.2 c vs w hv hh).mono ?_⟩
  rintro e w' ⟨c', r, v, H', he, rfl, hr, hh2, rfl, rfl⟩
  -- the boxes of the caller, forgotten
  have hk : RelH c' (killAll H ++ new) w' := by
    have key : ∀ (i : Nat) (Z : ABox), (killAll H ++ new)[i]? = some Z → Z.live = true → (H ++ new)[i]? = some Z := fun i Z hi hZ => by
      rcases Nat.lt_or_ge i H.length with h1 | h1
      · rw [List.getElem?_append_left (by rw [killAll_length]; exact h1)] at hi
        rw [killAll_get hi] at hZ; cases hZ
      · rw [List.getElem?_append_right (by rw [killAll_length]; exact h1), killAll_length] at hi
        rw [List.getElem?_append_right h1]; exact hi
    exact ⟨hh2.os, hh2.tape, hh2.output, hh2.sealed, fun i hi => hh2.dom i (by simpa [killAll_length] using hi), fun i Z hi hZ => hh2.box i Z (key i Z hi hZ) hZ,
      fun i i' l l' Z Z' hi hZ hi' hZ' => hh2.inj i i' l l' Z Z' (key i Z hi hZ) hZ (key i' Z' hi' hZ') hZ'⟩
  let isK : Nat → Prop := fun b => (∃ k Z l, (killAll H ++ new)[k]? = some Z ∧ Z.live = true ∧ c'.loc k = some l ∧ l.blk = b) ∧ c'.sealed b = none
  have decK : ∀ b, Decidable (isK b) := fun b => Classical.propDecidable _
  let c1 : Ctx := { c' with sealed := fun b => @ite _ (isK b) (decK b) (w'.heap[b]?) (c'.sealed b) }
  have sK : ∀ b, isK b → c1.sealed b = w'.heap[b]? := fun b hb => if_pos hb
  have sN : ∀ b, ¬ isK b → c1.sealed b = c'.sealed b := fun b hb => if_neg hb
  have he1 : Ext c' c1 := ⟨⟨rfl, rfl, rfl, fun b o ho => by
    by_cases hb : isK b
    · rw [hb.2] at ho; cases ho
    · rw [sN b hb]; exact ho⟩, fun _ _ h => h⟩
  have hs : ∀ k Z l, (killAll H ++ new)[k]? = some Z → Z.live = true → c'.loc k = some l → c1.sealed l.blk = w'.heap[l.blk]? := fun k Z l hk' hZ hl => by
    by_cases hb : isK l.blk
    · exact sK _ hb
    · rw [sN _ hb]
      cases hc : c'.sealed l.blk with
      | none => exact absurd ⟨⟨k, Z, l, hk', hZ, hl, rfl⟩, hc⟩ hb
      | some o => exact (hk.sealed _ _ hc).symm
  have hv1 : RelV c1 X' v := lent_rel hk he1 hs ha hr
  let c2 : Ctx := { c1 with loc := fun k => if k < H.length then c'.loc k else none }
  have hx12 : ExtB H.length c1 c2 := ⟨⟨rfl, rfl, rfl, fun _ _ h => h⟩, fun k l hk' hl => by
    show (if k < H.length then c'.loc k else none) = some l
    rw [if_pos hk']; exact hl⟩
  have he2 : Ext c c2 := ⟨⟨he.os, he.tape, he.output, fun b o ho => he1.sealed b o (he.sealed b o ho)⟩, fun k l hl => by
    show (if k < H.length then c'.loc k else none) = some l
    rw [if_pos (hh.lt hl)]; exact he.loc k l hl⟩
  have low : ∀ k l, c2.loc k = some l → k < H.length ∧ c'.loc k = some l := fun k l hl => by
    have hl' : (if k < H.length then c'.loc k else none) = some l := hl
    by_cases h1 : k < H.length
    · rw [if_pos h1] at hl'; exact ⟨h1, hl'⟩
    · rw [if_neg h1] at hl'; cases hl'
  have hold : ∀ (k : Nat) (Z : ABox), H[k]? = some Z → (H ++ new)[k]? = some Z := fun k Z h1 => by
    rw [List.getElem?_append_left (List.getElem?_eq_some_iff.1 h1).1]; exact h1
  have hnew : ∀ (k : Nat) (Z : ABox), (killAll H ++ new)[k]? = some Z → Z.live = true → H.length ≤ k ∧ (H ++ new)[k]? = some Z := fun k Z h1 hZ => by
    rcases Nat.lt_or_ge k H.length with h2 | h2
    · rw [List.getElem?_append_left (by rw [killAll_length]; exact h2)] at h1
      rw [killAll_get h1] at hZ; cases hZ
    · rw [List.getElem?_append_right (by rw [killAll_length]; exact h2), killAll_length] at h1
      exact ⟨h2, by rw [List.getElem?_append_right h2]; exact h1⟩
  refine ⟨c2, _, v, H, he2, rfl, hv1.extB hx12 hX, ⟨hh2.os, hh2.tape, hh2.output, fun b o ho => ?_, fun k hk' => ?_, fun k Z hk' hZ => ?_, ?_⟩, rfl, rfl⟩
  · by_cases hb : isK b
    · have : c1.sealed b = some o := ho
      rw [sK b hb] at this; exact this
    · have : c1.sealed b = some o := ho
      rw [sN b hb] at this; exact hh2.sealed b o this
  · show (if k < H.length then c'.loc k else none) = none
    rw [if_neg (by omega)]
  · obtain ⟨l, hl, hB⟩ := hh2.box k Z (hold k Z hk') hZ
    have hlt := (List.getElem?_eq_some_iff.1 hk').1
    have hnk : ¬ isK l.blk := fun hb => by
      obtain ⟨⟨k2, Z2, l2, h1, h2, h3, h4⟩, _⟩ := hb
      obtain ⟨g1, g2⟩ := hnew k2 Z2 h1 h2
      have := hh2.inj k2 k l2 l Z2 Z g2 h2 (hold k Z hk') hZ h3 hl h4
      omega
    have hlt' : BoxLt H.length Z := by
      have := hh.baseLt k hlt
      rwa [List.getD, hk'] at this
    refine ⟨l, ?_, ?_⟩
    · show (if k < H.length then c'.loc k else none) = some l
      rw [if_pos hlt]; exact hl
    · exact hB.carryB ((he1.toB _).trans hx12) hlt' (fun _ => sN _ hnk)
  · intro k k' l l' Z Z' h1 hZ h1' hZ' hl hl' hb
    exact hh2.inj k k' l l' Z Z' (hold k Z h1) hZ (hold k' Z' h1') hZ' (low k l hl).2 (low k' l' hl').2 hb
theorem LentV.boxL {b l : List ABox} {ro : Bool} {cs cs' : List AVal} {sz j q : Nat} (h : l[j]? = some (.box ro cs)) (hc : LentL (b ++ l) cs cs') : LentV (b ++ l) (.ptr sz (b.length + j) 0 q) (.rp cs' q) :=
  .box (app_get.trans h) hc.spec.1 hc.spec.2
theorem LentV.rowL {b l : List ABox} {ro : Bool} {e : ETy} {xs : List e.T} {sz j m : Nat} (hs : sz = e.sz) (h : l[j]? = some (.row ro e xs)) (hm : m = xs.length) : LentV (b ++ l) (.sl sz (b.length + j) 0 m) (.rd e xs) := by
  subst hs; subst hm
  have := LentV.sl (H := b ++ l) (off := 0) (m := xs.length) (app_get.trans h) (by omega)
  simpa using this
theorem LentV.aggL {H : List ABox} {cs cs' : List AVal} (hc : LentL H cs cs') : LentV H (.agg cs) (.agg cs') := .agg hc.spec.1 hc.spec.2
end Go.Eng

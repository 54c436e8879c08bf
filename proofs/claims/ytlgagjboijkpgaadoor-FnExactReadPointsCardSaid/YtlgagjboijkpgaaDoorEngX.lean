/- The engine, part X: own lists lent, sealed for the length of a call; a callee that writes its caller's boxes. -/
import Derived.Test.YtlgagjboijkpgaaDoorEngW
set_option linter.unusedSimpArgs false
set_option linter.unusedVariables false
namespace Go.Eng
variable {P : Program} {E : Env}

/-! ### Values that lean on no sealed block -/
inductive NoRd : AVal → Prop where
  | v (x : Value) : NoRd (.v x)
  | junk : NoRd .junk
  | ptr {sz k i j : Nat} : NoRd (.ptr sz k i j)
  | sl {sz k off n : Nat} : NoRd (.sl sz k off n)
  | mp {k : Nat} : NoRd (.mp k)
  | agg {cs : List AVal} (h : ∀ x ∈ cs, NoRd x) : NoRd (.agg cs)
  | tup {cs : List AVal} (h : ∀ x ∈ cs, NoRd x) : NoRd (.tup cs)
  | fn {f : FuncId} {cs : List AVal} (h : ∀ x ∈ cs, NoRd x) : NoRd (.fn f cs)
theorem nord_nil : ∀ x ∈ ([] : List AVal), NoRd x := fun x h => by simp at h
theorem nord_cons {a : AVal} {l : List AVal} (h : NoRd a) (k : ∀ x ∈ l, NoRd x) : ∀ x ∈ a :: l, NoRd x := fun x hx => by
  rcases List.mem_cons.1 hx with rfl | hx
  · exact h
  · exact k x hx
theorem getD_mem {cs : List AVal} {i : Nat} (hi : i < cs.length) : cs.getD i .junk ∈ cs := by
  simp only [List.getD, List.getElem?_eq_getElem hi, Option.getD_some]
  exact List.getElem_mem hi
theorem NoRd.move {a : AVal} (h : NoRd a) {c c' : Ctx} (hl : c'.loc = c.loc) : ∀ {u : Value}, RelV c a u → RelV c' a u := by
  induction h with
  | v x => intro u hu; cases hu; exact .v _
  | junk => intro u hu; exact .junk _
  | ptr => intro u hu; cases hu with | ptr h => exact .ptr (by rw [hl]; exact h)
  | sl => intro u hu; cases hu with | sl h h1 h2 => exact .sl (by rw [hl]; exact h) h1 h2
  | mp => intro u hu; cases hu with | mp h => exact .mp (by rw [hl]; exact h)
  | agg h ih => intro u hu; cases hu with | agg h1 h2 => exact .agg h1 (fun i hi => ih _ (getD_mem hi) (h2 i hi))
  | tup h ih => intro u hu; cases hu with | tup h1 h2 => exact .tup h1 (fun i hi => ih _ (getD_mem hi) (h2 i hi))
  | fn h ih => intro u hu; cases hu with | fn h1 h2 => exact .fn h1 (fun i hi => ih _ (getD_mem hi) (h2 i hi))

def ETy.noRd : ETy → Bool
  | .sli _ | .slb | .mix _ => false
  | _ => true
theorem ETy.enc_noRd : ∀ (e : ETy), e.noRd = true → ∀ (x : e.T) (j : Nat), j < e.sz → NoRd ((e.enc x).getD j .junk)
  | .int k, _, x, j, hj => by
    have : j = 0 := by simpa [ETy.sz] using hj
    subst this; exact .v _
  | .bool, _, x, j, hj => by
    have : j = 0 := by simpa [ETy.sz] using hj
    subst this; exact .v _
  | .str, _, x, j, hj => by
    have : j = 0 := by simpa [ETy.sz] using hj
    subst this; exact .v _
  | .pt, _, x, j, hj => by
    have hj' : j < 2 := hj
    match j, hj' with
    | 0, _ => exact .v _
    | 1, _ => exact .v _
  | .own _, _, x, j, hj => by
    have : j = 0 := by simpa [ETy.sz] using hj
    subst this
    rcases (x : Option (Nat × Nat)) with _ | p
    · exact .v _
    · exact .sl
  | .mix _, h, _, _, _ => by cases h
  | .sli _, h, _, _, _ => by cases h
  | .slb, h, _, _, _ => by cases h
/-- A box whose content leans on no sealed block. -/
def NoRdB : ABox → Prop
  | .dead => True
  | .box _ cs => ∀ x ∈ cs, NoRd x
  | .row _ e _ => e.noRd = true
  | .map _ _ => True
  | .iter _ _ _ => True
  | .tab _ _ => True
/-- And it is written by its owner. -/
def NoRdW : ABox → Prop
  | .dead => True
  | .box ro cs => ro = false ∧ ∀ x ∈ cs, NoRd x
  | .row ro e _ => ro = false ∧ e.noRd = true
  | .map _ _ => True
  | .iter _ _ _ => True
  | .tab _ _ => False
theorem NoRdW.b : ∀ {X : ABox}, NoRdW X → NoRdB X
  | .dead, _ => trivial
  | .box _ _, h => h.2
  | .row _ _ _, h => h.2
  | .map _ _, h => h
  | .iter _ _ _, h => h
  | .tab _ _, h => h.elim
def NoRdH (H : List ABox) : Prop := ∀ X ∈ H, NoRdB X
theorem nordH_nil : NoRdH [] := fun X h => by simp at h
theorem nordH_cons {X : ABox} {l : List ABox} (h : NoRdB X) (k : NoRdH l) : NoRdH (X :: l) := fun Y hY => by
  rcases List.mem_cons.1 hY with rfl | hY
  · exact h
  · exact k Y hY
theorem NoRdH.append {a b : List ABox} (h : NoRdH a) (k : NoRdH b) : NoRdH (a ++ b) := fun X hX => by
  rcases List.mem_append.1 hX with hX | hX
  · exact h X hX
  · exact k X hX
theorem RelB.move {c c' : Ctx} {w : World} {l : Loc} {X : ABox} (hX : NoRdB X) (hl : c'.loc = c.loc) (hs : X.live = true → c'.sealed l.blk = c.sealed l.blk) (h : RelB c w l X) : RelB c' w l X := by
  cases X with
  | dead => trivial
  | box ro cs =>
    obtain ⟨cells, T, h1, h2, h3⟩ := h
    refine ⟨cells, T, h1, ?_, fun j hj => ?_⟩
    · unfold modeOk at *; rw [hs rfl]; exact h2
    · obtain ⟨u, hu, hr⟩ := h3 j hj; exact ⟨u, hu, (hX _ (getD_mem hj)).move hl hr⟩
  | row ro e xs =>
    obtain ⟨cells, T, h1, h2, h3, h4, h5⟩ := h
    refine ⟨cells, T, h1, ?_, h3, h4, fun i j hi hj => ?_⟩
    · unfold modeOk at *; rw [hs rfl]; exact h2
    · obtain ⟨u, hu, hr⟩ := h5 i j hi hj; exact ⟨u, hu, (ETy.enc_noRd e hX _ j hj).move hl hr⟩
  | map kk es => exact ⟨h.1, (hs rfl).trans h.2⟩
  | iter m since seen =>
    obtain ⟨⟨lm, h1, h2⟩, h3⟩ := h
    exact ⟨⟨lm, by rw [hl]; exact h1, h2⟩, (hs rfl).trans h3⟩
  | tab g o => exact ⟨h.1, (hs rfl).trans h.2.1, h.2.2⟩

/-! ### Lists of the call's own, lent -/
/-- A list of one's own. -/
def ABox.lent : ABox → Bool
  | .row false _ _ => true
  | _ => false
def killRows (H : List ABox) : List ABox := H.map fun X => bif X.lent then .dead else X
theorem killRows_length (H : List ABox) : (killRows H).length = H.length := by simp [killRows]
inductive LendV (H : List ABox) : AVal → AVal → Prop where
  | same (a : AVal) : LendV H a a
  | sl {e : ETy} {xs : List e.T} {k off m : Nat} (h : H[k]? = some (.row false e xs)) (hm : off + m ≤ xs.length) : LendV H (.sl e.sz k off m) (.rd e ((xs.drop off).take m))
  | agg {cs cs' : List AVal} (hl : cs'.length = cs.length) (h : ∀ i, i < cs.length → LendV H (cs.getD i .junk) (cs'.getD i .junk)) : LendV H (.agg cs) (.agg cs')
  | nil (e : ETy) : LendV H (.v (.slice none 0 0)) (.rd e [])
theorem LendV.whole {H : List ABox} {e : ETy} {xs : List e.T} {sz k m : Nat} (hs : sz = e.sz) (h : H[k]? = some (.row false e xs)) (hm : m = xs.length) : LendV H (.sl sz k 0 m) (.rd e xs) := by
  subst hs; subst hm
  have := LendV.sl (H := H) (e := e) (xs := xs) (k := k) (off := 0) (m := xs.length) h (by omega)
  simpa using this
def LendL (H : List ABox) : List AVal → List AVal → Prop
  | [], [] => True
  | a :: r, a' :: r' => LendV H a a' ∧ LendL H r r'
  | _, _ => False
theorem LendL.spec {H : List ABox} : ∀ {l l' : List AVal}, LendL H l l' → l'.length = l.length ∧ ∀ i, i < l.length → LendV H (l.getD i .junk) (l'.getD i .junk)
  | [], [], _ => ⟨rfl, fun i h => by simp at h⟩
  | [], _ :: _, h => h.elim
  | _ :: _, [], h => h.elim
  | a :: r, a' :: r', h => by
    obtain ⟨g1, g2⟩ := LendL.spec h.2
    refine ⟨by simp [g1], fun i hi => ?_⟩
    cases i with
    | zero => exact h.1
    | succ i => exact g2 i (by simpa using hi)

theorem lend_rel {c : Ctx} {H : List ABox} {w : World} (hh : RelH c H w) {c' : Ctx} (he : Ext c c')
    (hs : ∀ k e xs l, H[k]? = some (.row false e xs) → c.loc k = some l → c'.sealed l.blk = w.heap[l.blk]?) {a a' : AVal} (h : LendV H a a') : ∀ {u : Value}, RelV c a u → RelV c' a' u := by
  induction h with
  | same a => intro u hu; exact hu.ext he
  | @sl e xs k off m hk hm =>
    intro u hu
    cases hu with
    | @sl _ _ _ _ b o l hl hn ha =>
      obtain ⟨l2, hl2, cells, T, h1, h2, h3, h4, h5⟩ := hh.box k _ hk rfl
      rw [hl] at hl2; cases hl2
      have hsl := hs k e xs l hk hl
      rw [h1] at hsl
      have hlen : ((xs.drop off).take m).length = m := by simp; omega
      refine .rd (fun i j => cells.getD (l.off + (off + i) * e.sz + j) undef) hlen (by omega) (fun hp => ?_) (fun i j hi hj => ?_)
      · obtain ⟨rfl, rfl⟩ := ha (by omega)
        refine ⟨l.blk, l.off + off * e.sz, cells, T, (0, 0), rfl, hsl, fun i j hi hj => ?_⟩
        obtain ⟨u, hu, _⟩ := h5 (off + i) j (by omega) hj
        have e1 : l.off + off * e.sz + i * e.sz + j = l.off + (off + i) * e.sz + j := by rw [Nat.add_mul]; omega
        rw [e1, hu]
        simp only [Array.getD_eq_getD_getElem?]
        rw [hu]; rfl
      · obtain ⟨u, hu, hr⟩ := h5 (off + i) j (by omega) hj
        have e2 : ((xs.drop off).take m).getD i e.d = xs.getD (off + i) e.d := by
          simp [List.getD, hi]
        rw [e2]
        have e3 : cells.getD (l.off + (off + i) * e.sz + j) undef = u := by
          simp only [Array.getD_eq_getD_getElem?]
          rw [hu]; rfl
        rw [e3]; exact hr.ext he
  | agg hl h ih => intro u hu; cases hu with | agg h1 h2 => exact .agg (hl.trans h1) (fun i hi => ih i (by omega) (h2 i (by omega)))
  | nil e =>
    intro u hu; cases hu
    exact .rd (fun _ _ => undef) rfl (Nat.le_refl _) (fun h => absurd h (by omega)) (fun i j h => absurd h (by omega))

/-- A CALL TO WHICH OWN LISTS ARE LENT: the callee sees them sealed. -/
theorem AC.lend {f : FuncId} {args args' : List AVal} {H new : List ABox} {X : AVal} (hH : NoRdH H) (ha : LendL H args args') (hX : NoRd X) (hnew : ∀ Z ∈ new, NoRdW Z)
    (h : AC P f args' (killRows H) (fun r H' => r = X ∧ H' = killRows H ++ new)) : AC P f args H (fun r H' => r = X ∧ H' = H ++ new) := by
  refine ⟨h.1, fun c vs w hv hh => ?_⟩
  have lentB : ∀ (k : Nat) (Z : ABox) (l : Loc), H[k]? = some Z → Z.lent = true → c.loc k = some l → c.sealed l.blk = none ∧ ∃ o, w.heap[l.blk]? = some o := fun k Z l hk hZ hl => by
    match Z, hZ with
    | .row false e xs, _ =>
      obtain ⟨l2, hl2, cells, T, h1, h2, _⟩ := hh.box k _ hk rfl
      rw [hl] at hl2; cases hl2
      exact ⟨h2, _, h1⟩
  let isK : Nat → Prop := fun b => ∃ k Z l, H[k]? = some Z ∧ Z.lent = true ∧ c.loc k = some l ∧ l.blk = b
  have decK : ∀ b, Decidable (isK b) := fun b => Classical.propDecidable _
  have notK : ∀ (k : Nat) (Z : ABox) (l : Loc), H[k]? = some Z → Z.live = true → Z.lent = false → c.loc k = some l → ¬ isK l.blk := fun k Z l hk hZ hZ2 hl ⟨k', Z', l', h1, h2, h3, h4⟩ => by
    have hlive : Z'.live = true := by
      match Z', h2 with
      | .row false e xs, _ => rfl
    have := hh.inj k k' l l' Z Z' hk hZ h1 hlive hl h3 h4.symm
    subst this
    rw [hk] at h1; cases h1
    rw [hZ2] at h2; cases h2
  let c' : Ctx := { c with sealed := fun b => @ite _ (isK b) (decK b) (w.heap[b]?) (c.sealed b) }
  have sK : ∀ b, isK b → c'.sealed b = w.heap[b]? := fun b hb => if_pos hb
  have sN : ∀ b, ¬ isK b → c'.sealed b = c.sealed b := fun b hb => if_neg hb
  have he : Ext c c' := ⟨⟨rfl, rfl, rfl, fun b o ho => by
    by_cases hb : isK b
    · obtain ⟨k, Z, l, h1, h2, h3, rfl⟩ := hb
      rw [(lentB k Z l h1 h2 h3).1] at ho; cases ho
    · rw [sN b hb]; exact ho⟩, fun _ _ h => h⟩
  have kr : ∀ (k : Nat) (Z : ABox), (killRows H)[k]? = some Z → Z.live = true → H[k]? = some Z ∧ Z.lent = false := fun k Z hk hZ => by
    unfold killRows at hk
    rw [List.getElem?_map, Option.map_eq_some_iff] at hk
    obtain ⟨Y, hY, he⟩ := hk
    cases hl : Y.lent with
    | true => rw [hl] at he; simp at he; subst he; cases hZ
    | false => rw [hl] at he; simp at he; subst he; exact ⟨hY, hl⟩
  have hh' : RelH c' (killRows H) w := by
    refine ⟨hh.os, hh.tape, hh.output, fun b o ho => ?_, fun k hk => hh.dom k (by rwa [killRows_length] at hk), fun k Z hk hZ => ?_, ?_⟩
    · by_cases hb : isK b
      · rw [sK b hb] at ho; exact ho
      · rw [sN b hb] at ho; exact hh.sealed b o ho
    · obtain ⟨h1, h2⟩ := kr k Z hk hZ
      obtain ⟨l, hl, hB⟩ := hh.box k Z h1 hZ
      exact ⟨l, hl, hB.carry he (fun _ => rfl) (fun _ => sN _ (notK k Z l h1 hZ h2 hl))⟩
    · intro k k' l l' Z Z' hk hZ hk' hZ' hl hl' hb
      exact hh.inj k k' l l' Z Z' (kr k Z hk hZ).1 hZ (kr k' Z' hk' hZ').1 hZ' hl hl' hb
  obtain ⟨hal, hag⟩ := ha.spec
  have hv' : RelCs c' args' vs := ⟨hv.1.trans hal.symm, fun i hi => lend_rel hh he (fun k e xs l hk hl => sK _ ⟨k, _, l, hk, rfl, hl, rfl⟩) (hag i (by omega)) (hv.2 i (by omega))⟩
  refine (h.2 c' vs w hv' hh').mono ?_
  rintro e w' ⟨c2, r, v, H', he2, rfl, hr, hh2, rfl, rfl⟩
  let c3 : Ctx := { c2 with sealed := fun b => @ite _ (isK b) (decK b) none (c2.sealed b) }
  have tK : ∀ b, isK b → c3.sealed b = none := fun b hb => if_pos hb
  have tN : ∀ b, ¬ isK b → c3.sealed b = c2.sealed b := fun b hb => if_neg hb
  have he3 : Ext c c3 := ⟨⟨he2.os, he2.tape, he2.output, fun b o ho => by
    by_cases hb : isK b
    · obtain ⟨k, Z, l, h1, h2, h3, rfl⟩ := hb
      rw [(lentB k Z l h1 h2 h3).1] at ho; cases ho
    · rw [tN b hb]; exact he2.sealed b o (he.sealed b o ho)⟩, fun k l hl => he2.loc k l hl⟩
  have lowloc : ∀ (k : Nat) (Z : ABox) (l : Loc), H[k]? = some Z → Z.live = true → c2.loc k = some l → c.loc k = some l := fun k Z l hk hZ hl => by
    obtain ⟨l', hl', _⟩ := hh.box k Z hk hZ
    have := he2.loc k l' hl'
    rw [hl] at this; cases this; exact hl'
  have kb : ∀ b, isK b → ∃ o, w.heap[b]? = some o ∧ c2.sealed b = some o ∧ w'.heap[b]? = some o := fun b hb => by
    have hb' := hb
    obtain ⟨k, Z, l, h1, h2, h3, rfl⟩ := hb
    obtain ⟨o, ho⟩ := (lentB k Z l h1 h2 h3).2
    have h4 : c'.sealed l.blk = some o := (sK _ hb').trans ho
    have h5 := he2.sealed _ _ h4
    exact ⟨o, ho, h5, hh2.sealed _ _ h5⟩
  have split : ∀ (k : Nat) (Z : ABox), (H ++ new)[k]? = some Z → Z.live = true → (H[k]? = some Z ∧ Z.lent = true) ∨ ((killRows H ++ new)[k]? = some Z ∧ NoRdB Z ∧ ((H[k]? = some Z ∧ Z.lent = false) ∨ (H.length ≤ k ∧ NoRdW Z))) := fun k Z hk hZ => by
    rcases Nat.lt_or_ge k H.length with h1 | h1
    · rw [List.getElem?_append_left h1] at hk
      cases hl : Z.lent with
      | true => exact .inl ⟨hk, rfl⟩
      | false =>
        refine .inr ⟨?_, hH Z (List.mem_of_getElem? hk), .inl ⟨hk, rfl⟩⟩
        rw [List.getElem?_append_left (by rw [killRows_length]; exact h1)]
        unfold killRows
        rw [List.getElem?_map, hk]; simp [hl]
    · rw [List.getElem?_append_right h1] at hk
      have hw := hnew Z (List.mem_of_getElem? hk)
      exact .inr ⟨by rw [List.getElem?_append_right (by rw [killRows_length]; exact h1), killRows_length]; exact hk, hw.b, .inr ⟨h1, hw⟩⟩
  -- the block of a box that was not lent is not one of those that were
  have nk : ∀ (k : Nat) (Z : ABox) (l : Loc), Z.live = true → ((H[k]? = some Z ∧ Z.lent = false) ∨ (H.length ≤ k ∧ NoRdW Z)) → c2.loc k = some l → RelB c2 w' l Z → ¬ isK l.blk := fun k Z l hZ hc hl hB => by
    rcases hc with ⟨h1, h2⟩ | ⟨h1, h2⟩
    · exact notK k Z l h1 hZ h2 (lowloc k Z l h1 hZ hl)
    · intro hb
      obtain ⟨o, _, h5, _⟩ := kb _ hb
      cases Z with
      | dead => cases hZ
      | box ro cs =>
        obtain ⟨cells, T, g1, g2, _⟩ := hB
        rw [h2.1] at g2
        have g2' : c2.sealed l.blk = none := g2
        rw [h5] at g2'; cases g2'
      | row ro e xs =>
        obtain ⟨cells, T, g1, g2, _⟩ := hB
        rw [h2.1] at g2
        have g2' : c2.sealed l.blk = none := g2
        rw [h5] at g2'; cases g2'
      | map kk es =>
        have g2 : c2.sealed l.blk = none := hB.2
        rw [h5] at g2; cases g2
      | iter m since seen =>
        have g2 : c2.sealed l.blk = none := hB.2
        rw [h5] at g2; cases g2
      | tab g o => exact h2.elim
  refine ⟨c3, _, v, _, he3, rfl, hX.move (c := c2) (c' := c3) rfl hr, ⟨hh2.os, hh2.tape, hh2.output, fun b o ho => ?_, fun k hk => ?_, fun k Z hk hZ => ?_, ?_⟩, rfl, rfl⟩
  · by_cases hb : isK b
    · rw [tK b hb] at ho; cases ho
    · rw [tN b hb] at ho; exact hh2.sealed b o ho
  · exact hh2.dom k (by simpa [killRows_length] using hk)
  · rcases split k Z hk hZ with ⟨h1, h2⟩ | ⟨h1, h2, h3⟩
    · match Z, h2 with
      | .row false e xs, _ =>
        obtain ⟨l, hl, cells, T, g1, g2, g3, g4, g5⟩ := hh.box k _ h1 rfl
        have hb : isK l.blk := ⟨k, _, l, h1, rfl, hl, rfl⟩
        obtain ⟨o, ho, _, ho'⟩ := kb _ hb
        rw [g1] at ho; cases ho
        exact ⟨l, he3.loc k l hl, cells, T, ho', tK _ hb, g3, g4, fun i j hi hj => by
          obtain ⟨u, hu, hr⟩ := g5 i j hi hj; exact ⟨u, hu, hr.ext he3⟩⟩
    · obtain ⟨l, hl, hB⟩ := hh2.box k Z h1 hZ
      exact ⟨l, hl, hB.move (c := c2) (c' := c3) h2 rfl (fun _ => tN _ (nk k Z l hZ h3 hl hB))⟩
  · intro k k' l l' Z Z' hk hZ hk' hZ' hl hl' hb
    have isKof : ∀ (k : Nat) (Z : ABox) (l : Loc), H[k]? = some Z → Z.live = true → Z.lent = true → c3.loc k = some l → isK l.blk := fun k Z l h1 h2 h3 h4 => ⟨k, Z, l, h1, h3, lowloc k Z l h1 h2 h4, rfl⟩
    rcases split k Z hk hZ with ⟨h1, h2⟩ | ⟨h1, h2, h3⟩ <;> rcases split k' Z' hk' hZ' with ⟨h1', h2'⟩ | ⟨h1', h2', h3'⟩
    · exact hh.inj k k' l l' Z Z' h1 hZ h1' hZ' (lowloc k Z l h1 hZ hl) (lowloc k' Z' l' h1' hZ' hl') hb
    · obtain ⟨m, hm, hB⟩ := hh2.box k' Z' h1' hZ'
      have hm' : c2.loc k' = some l' := hl'
      rw [hm'] at hm; cases hm
      exact absurd (hb ▸ isKof k Z l h1 hZ h2 hl) (nk k' Z' l' hZ' h3' hl' hB)
    · obtain ⟨m, hm, hB⟩ := hh2.box k Z h1 hZ
      have hm' : c2.loc k = some l := hl
      rw [hm'] at hm; cases hm
      exact absurd (hb.symm ▸ isKof k' Z' l' h1' hZ' h2' hl') (nk k Z l hZ h3 hl hB)
    · exact hh2.inj k k' l l' Z Z' h1 hZ h1' hZ' hl hl' hb
end Go.Eng

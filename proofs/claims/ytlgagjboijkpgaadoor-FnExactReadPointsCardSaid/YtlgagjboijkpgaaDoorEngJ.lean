/- The engine, part J: saying a state otherwise; a function's beginning and end. -/
import Derived.Test.YtlgagjboijkpgaaDoorEngI
set_option linter.unusedSimpArgs false
set_option linter.unusedVariables false
namespace Go.Eng
variable {P : Program} {E : Env}

/-- All numbers in a box's content are below n. -/
def BoxLt (n : Nat) : ABox → Prop
  | .dead => True
  | .box _ cs => ∀ i, i < cs.length → IdsLt n (cs.getD i .junk)
  | .row _ e xs => ∀ i j, i < xs.length → j < e.sz → IdsLt n ((e.enc (xs.getD i e.d)).getD j .junk)
  | .map _ _ => True
  | .iter m _ _ => m < n
  | .tab _ _ => True
def BaseLt (n : Nat) (H : List ABox) : Prop := ∀ k, k < H.length → BoxLt n (H.getD k .dead)

theorem RelH.baseLt {c : Ctx} {H : List ABox} {w : World} (h : RelH c H w) : BaseLt H.length H := by
  intro k hk
  have hd : ∀ k l, c.loc k = some l → k < H.length := fun k l hl => h.lt hl
  have hg : H[k]? = some (H.getD k .dead) := by simp [List.getD, hk]
  cases hX : H.getD k .dead with
  | dead => trivial
  | box ro cs =>
    rw [hX] at hg
    obtain ⟨l, hl, hB⟩ := h.box k _ hg rfl
    intro i hi
    obtain ⟨u, _, hr⟩ := hB.box_cells i hi
    exact hr.ids hd
  | row ro e xs =>
    rw [hX] at hg
    obtain ⟨l, hl, hB⟩ := h.box k _ hg rfl
    intro i j hi hj
    obtain ⟨u, _, hr⟩ := hB.row_cells hi j (by rw [ETy.enc_length]; exact hj)
    exact hr.ids hd
  | map kk es => trivial
  | iter m since seen =>
    rw [hX] at hg
    obtain ⟨l, hl, ⟨lm, h1, h2⟩, h3⟩ := h.box k _ hg rfl
    exact hd _ _ h1
  | tab g o => trivial

/-- The new value (its local numbers index 'idx') says no more than the old one. -/
inductive RenV (n : Nat) (idx : List Nat) : AVal → AVal → Prop where
  | junk (a : AVal) : RenV n idx .junk a
  | low {a : AVal} (h : IdsLt n a) : RenV n idx a a
  | ptr {sz i j p q : Nat} (h : idx[j]? = some i) : RenV n idx (.ptr sz (n + j) p q) (.ptr sz (n + i) p q)
  | sl {sz i j off m : Nat} (h : idx[j]? = some i) : RenV n idx (.sl sz (n + j) off m) (.sl sz (n + i) off m)
  | mp {i j : Nat} (h : idx[j]? = some i) : RenV n idx (.mp (n + j)) (.mp (n + i))
  | it {i j : Nat} (h : idx[j]? = some i) : RenV n idx (.it (n + j)) (.it (n + i))
  | agg {cs cs' : List AVal} (hl : cs'.length = cs.length) (h : ∀ i, i < cs.length → RenV n idx (cs'.getD i .junk) (cs.getD i .junk)) : RenV n idx (.agg cs') (.agg cs)
  | tup {cs cs' : List AVal} (hl : cs'.length = cs.length) (h : ∀ i, i < cs.length → RenV n idx (cs'.getD i .junk) (cs.getD i .junk)) : RenV n idx (.tup cs') (.tup cs)
  | fn {f : FuncId} {cs cs' : List AVal} (hl : cs'.length = cs.length) (h : ∀ i, i < cs.length → RenV n idx (cs'.getD i .junk) (cs.getD i .junk)) : RenV n idx (.fn f cs') (.fn f cs)

def Ctx.sel (c : Ctx) (n : Nat) (idx : List Nat) : Ctx := { c with loc := fun k => if k < n then c.loc k else (idx[k - n]?).bind fun i => c.loc (n + i) }
theorem Ctx.sel_low {c : Ctx} {n : Nat} {idx : List Nat} {k : Nat} (h : k < n) : (c.sel n idx).loc k = c.loc k := by simp [Ctx.sel, h]
theorem Ctx.sel_loc {c : Ctx} {n : Nat} {idx : List Nat} {i j : Nat} (h : idx[j]? = some i) : (c.sel n idx).loc (n + j) = c.loc (n + i) := by
  have h1 : ¬ n + j < n := by omega
  simp [Ctx.sel, h, h1]
theorem Ctx.sel_ext (c : Ctx) (n : Nat) (idx : List Nat) : ExtB n c (c.sel n idx) := ⟨⟨rfl, rfl, rfl, fun _ _ h => h⟩, fun k l hk hl => by rw [Ctx.sel_low hk]; exact hl⟩

theorem RelV.ren {n : Nat} {idx : List Nat} {c : Ctx} {a' a : AVal} (hr : RenV n idx a' a) : ∀ {v : Value}, RelV c a v → RelV (c.sel n idx) a' v := by
  induction hr with
  | junk a => intro v _; exact .junk v
  | low h => intro v hv; exact hv.extB (c.sel_ext n idx) h
  | ptr h => intro v hv; cases hv with | ptr hl => exact .ptr (by rw [Ctx.sel_loc h]; exact hl)
  | sl h => intro v hv; cases hv with | sl hl hn ha => exact .sl (by rw [Ctx.sel_loc h]; exact hl) hn ha
  | mp h => intro v hv; cases hv with | mp hl => exact .mp (by rw [Ctx.sel_loc h]; exact hl)
  | it h => intro v hv; cases hv with | it hl => exact .it (by rw [Ctx.sel_loc h]; exact hl)
  | agg hl h ih => intro v hv; cases hv with | agg hl' h' => exact .agg (hl.trans hl') (fun i hi => ih i (by omega) (h' i (by omega)))
  | tup hl h ih => intro v hv; cases hv with | tup hl' h' => exact .tup (hl.trans hl') (fun i hi => ih i (by omega) (h' i (by omega)))
  | fn hl h ih => intro v hv; cases hv with | fn hl' h' => exact .fn (hl.trans hl') (fun i hi => ih i (by omega) (h' i (by omega)))

/-- The new box says no more than the old one. -/
inductive RenB (n : Nat) (idx : List Nat) : ABox → ABox → Prop where
  | dead (X : ABox) : RenB n idx .dead X
  | low {X : ABox} (h : BoxLt n X) : RenB n idx X X
  | box {ro : Bool} {cs cs' : List AVal} (hl : cs'.length = cs.length) (h : ∀ i, i < cs.length → RenV n idx (cs'.getD i .junk) (cs.getD i .junk)) : RenB n idx (.box ro cs') (.box ro cs)
  | map (kk : KK) (es : List (kk.T × Value)) : RenB n idx (.map kk es) (.map kk es)
  | iter {i j since : Nat} {seen : List Nat} (h : idx[j]? = some i) : RenB n idx (.iter (n + j) since seen) (.iter (n + i) since seen)
  | row {ro : Bool} {e : ETy} {xs xs' : List e.T} (hl : xs'.length = xs.length) (h : ∀ i j, i < xs.length → j < e.sz → RenV n idx ((e.enc (xs'.getD i e.d)).getD j .junk) ((e.enc (xs.getD i e.d)).getD j .junk)) : RenB n idx (.row ro e xs') (.row ro e xs)

theorem RenB.live {n : Nat} {idx : List Nat} {X' X : ABox} (h : RenB n idx X' X) (hl : X'.live = true) : X.live = true := by
  cases h with
  | dead => cases hl
  | low => exact hl
  | box => rfl
  | map => rfl
  | iter => rfl
  | row => rfl

theorem RelB.ren {n : Nat} {idx : List Nat} {c : Ctx} {w : World} {l : Loc} {X' X : ABox} (hr : RenB n idx X' X) (h : RelB c w l X) : RelB (c.sel n idx) w l X' := by
  cases hr with
  | dead => trivial
  | low hlt =>
    cases X' with
    | dead => trivial
    | box ro cs =>
      obtain ⟨cells, T, h1, h2, h3⟩ := h
      exact ⟨cells, T, h1, h2, fun j hj => by obtain ⟨u, hu, hr⟩ := h3 j hj; exact ⟨u, hu, hr.extB (c.sel_ext n idx) (hlt j hj)⟩⟩
    | row ro e xs =>
      obtain ⟨cells, T, h1, h2, h3, h4, h5⟩ := h
      exact ⟨cells, T, h1, h2, h3, h4, fun i j hi hj => by obtain ⟨u, hu, hr⟩ := h5 i j hi hj; exact ⟨u, hu, hr.extB (c.sel_ext n idx) (hlt i j hi hj)⟩⟩
    | map kk es => exact h
    | iter m since seen =>
      obtain ⟨⟨lm, h1, h2⟩, h3⟩ := h
      exact ⟨⟨lm, (Ctx.sel_low hlt).trans h1, h2⟩, h3⟩
    | tab g o => exact h
  | map => exact h
  | iter hi =>
    obtain ⟨⟨lm, h1, h2⟩, h3⟩ := h
    exact ⟨⟨lm, (Ctx.sel_loc hi).trans h1, h2⟩, h3⟩
  | box hl hh =>
    obtain ⟨cells, T, h1, h2, h3⟩ := h
    exact ⟨cells, T, h1, h2, fun j hj => by obtain ⟨u, hu, hr⟩ := h3 j (by omega); exact ⟨u, hu, hr.ren (hh j (by omega))⟩⟩
  | row hl hh =>
    obtain ⟨cells, T, h1, h2, h3, h4, h5⟩ := h
    exact ⟨cells, T, h1, h2, h3, by omega, fun i j hi hj => by obtain ⟨u, hu, hr⟩ := h5 i j (by omega) hj; exact ⟨u, hu, hr.ren (hh i j (by omega) hj)⟩⟩

def RenL (n : Nat) (idx : List Nat) (loc : List ABox) : List ABox → List Nat → Prop
  | [], [] => True
  | X :: r, i :: ir => RenB n idx X (loc.getD i .dead) ∧ i < loc.length ∧ RenL n idx loc r ir
  | _, _ => False
theorem RenL.spec {n : Nat} {idx : List Nat} {loc : List ABox} : ∀ {L : List ABox} {is : List Nat}, RenL n idx loc L is → L.length = is.length ∧ ∀ j i, is[j]? = some i → i < loc.length ∧ RenB n idx (L.getD j .dead) (loc.getD i .dead)
  | [], [], _ => ⟨rfl, fun j i h => by simp at h⟩
  | [], _ :: _, h => h.elim
  | _ :: _, [], h => h.elim
  | X :: r, i0 :: ir, h => by
    obtain ⟨h1, h2, h3⟩ := h
    obtain ⟨g1, g2⟩ := RenL.spec h3
    refine ⟨by simp [g1], fun j i hj => ?_⟩
    cases j with
    | zero => simp at hj; subst hj; exact ⟨h2, by simpa using h1⟩
    | succ j => simp at hj; have := g2 j i hj; simpa using this

theorem RelH.sel {n : Nat} {idx : List Nat} {c : Ctx} {B L L' : List ABox} {w : World} (h : RelH c (B ++ L) w) (hB : BaseLt n B) (hn : B.length = n) (hr : RenL n idx L L' idx) (hnd : idx.Nodup) :
    RelH (c.sel n idx) (B ++ L') w := by
  obtain ⟨hlen, hspec⟩ := hr.spec
  have key : ∀ (k : Nat) (X : ABox), (B ++ L')[k]? = some X → X.live = true → ∃ k0 X0, (B ++ L)[k0]? = some X0 ∧ X0.live = true ∧ (c.sel n idx).loc k = c.loc k0 ∧ RenB n idx X X0 ∧
      ((k < n ∧ k0 = k) ∨ ∃ j i, k = n + j ∧ k0 = n + i ∧ idx[j]? = some i) := fun k X hk hX => by
    rcases Nat.lt_or_ge k n with h1 | h1
    · rw [List.getElem?_append_left (by omega)] at hk
      refine ⟨k, X, by rw [List.getElem?_append_left (by omega)]; exact hk, hX, Ctx.sel_low h1, .low ?_, .inl ⟨h1, rfl⟩⟩
      have := hB k (by omega)
      rwa [List.getD, hk] at this
    · rw [List.getElem?_append_right (by omega), hn] at hk
      have hj : k - n < idx.length := by rw [← hlen]; exact (List.getElem?_eq_some_iff.1 hk).1
      obtain ⟨i, hi⟩ : ∃ i, idx[k - n]? = some i := ⟨_, List.getElem?_eq_getElem hj⟩
      obtain ⟨h2, h3⟩ := hspec _ _ hi
      rw [List.getD, hk] at h3
      have h4 : L[i]? = some (L.getD i .dead) := by simp [List.getD, h2]
      have hkk : n + (k - n) = k := by omega
      refine ⟨n + i, L.getD i .dead, by rw [List.getElem?_append_right (by omega), hn, Nat.add_sub_cancel_left]; exact h4, h3.live hX, ?_, h3, .inr ⟨k - n, i, hkk.symm, rfl, hi⟩⟩
      have := Ctx.sel_loc (c := c) (n := n) hi
      rwa [hkk] at this
  refine ⟨h.os, h.tape, h.output, h.sealed, fun k hk => ?_, fun k X hk hX => ?_, ?_⟩
  · simp [hlen, hn] at hk
    have h1 : ¬ k < n := by omega
    have h2 : idx[k - n]? = none := List.getElem?_eq_none (by omega)
    simp [Ctx.sel, h1, h2]
  · obtain ⟨k0, X0, g1, g2, g3, g4, _⟩ := key k X hk hX
    obtain ⟨l, hl, hB'⟩ := h.box k0 X0 g1 g2
    exact ⟨l, g3.trans hl, hB'.ren g4⟩
  · intro k k' l l' X X' hk hX hk' hX' hl hl' hb
    obtain ⟨k0, X0, g1, g2, g3, g4, g5⟩ := key k X hk hX
    obtain ⟨k0', X0', g1', g2', g3', g4', g5'⟩ := key k' X' hk' hX'
    have := h.inj k0 k0' l l' X0 X0' g1 g2 g1' g2' (g3.symm.trans hl) (g3'.symm.trans hl') hb
    rcases g5 with ⟨h1, rfl⟩ | ⟨j, i, rfl, rfl, hi⟩ <;> rcases g5' with ⟨h1', rfl⟩ | ⟨j', i', rfl, rfl, hi'⟩
    · exact this
    · omega
    · omega
    · have hii : i = i' := by omega
      subst hii
      have hj := (List.getElem?_eq_some_iff.1 hi).1
      have := (List.getElem?_inj hj hnd).1 (hi.trans hi'.symm)
      omega

def RenS (n : Nat) (idx : List Nat) (old : List (Nat × AVal)) : List (Nat × AVal) → Prop
  | [] => True
  | (t, a) :: r => RenV n idx a (lk old t) ∧ RenS n idx old r
theorem RenS.spec {n : Nat} {idx : List Nat} {old : List (Nat × AVal)} : ∀ {sl : List (Nat × AVal)}, RenS n idx old sl → ∀ t, RenV n idx (lk sl t) (lk old t)
  | [], _, t => .junk _
  | (k, a) :: r, h, t => by
    rw [lk_put]
    by_cases e : k = t
    · subst e; rw [if_pos rfl]; exact h.1
    · rw [if_neg e]; exact RenS.spec h.2 t

/-- A STATE SAID OTHERWISE: local boxes kept by their old indices, temporaries forgotten or renamed. -/
theorem Weak.sel {n : Nat} {st : St} (idx : List Nat) {slots : List (Nat × AVal)} {loc : List ABox} (hB : BaseLt n st.base) (hnd : idx.Nodup) (hr : RenL n idx st.loc loc idx) (hs : RenS n idx st.slots slots) :
    Weak n st ⟨st.N, slots, st.base, loc⟩ := fun c a w h =>
  ⟨c.sel n idx, c.sel_ext n idx, h.defers, h.size, fun t => (h.slots t).ren (hs.spec t), h.heap.sel hB h.hn hr hnd, h.hn⟩

/-- Temporaries forgotten alone. -/
def SubS (old : List (Nat × AVal)) : List (Nat × AVal) → Prop
  | [] => True
  | (t, a) :: r => (a = lk old t) ∧ SubS old r
theorem SubS.spec {old : List (Nat × AVal)} : ∀ {sl : List (Nat × AVal)}, SubS old sl → ∀ t, lk sl t = .junk ∨ lk sl t = lk old t
  | [], _, t => .inl rfl
  | (k, a) :: r, h, t => by
    rw [lk_put]
    by_cases e : k = t
    · subst e; rw [if_pos rfl]; exact .inr h.1
    · rw [if_neg e]; exact SubS.spec h.2 t
theorem Weak.slots {n : Nat} {st : St} {slots : List (Nat × AVal)} (h : SubS st.slots slots) : Weak n st { st with slots := slots } := fun c a w hr =>
  ⟨c, .refl n c, hr.defers, hr.size, fun t => by
    show RelV c (lk slots t) _
    rcases h.spec t with h1 | h1
    · rw [h1]; exact .junk _
    · rw [h1]; exact hr.slots t, hr.heap, hr.hn⟩

/-! ### A function's beginning and end -/
def initS : Nat → List AVal → List (Nat × AVal)
  | _, [] => []
  | k, a :: r => (k, a) :: initS (k + 1) r
theorem lk_initS : ∀ (l : List AVal) (k t : Nat), lk (initS k l) t = if k ≤ t ∧ t < k + l.length then l.getD (t - k) .junk else .junk
  | [], k, t => by simp [initS, lk]
  | a :: r, k, t => by
    rw [initS, lk_put, lk_initS r (k + 1) t]
    by_cases e : k = t
    · subst e; simp
    · rw [if_neg e]
      by_cases h : k + 1 ≤ t ∧ t < k + 1 + r.length
      · have h' : k ≤ t ∧ t < k + (a :: r).length := by simp; omega
        rw [if_pos h, if_pos h']
        have : t - k = (t - (k + 1)) + 1 := by omega
        rw [this]; simp [List.getD]
      · have h' : ¬ (k ≤ t ∧ t < k + (a :: r).length) := by simp; omega
        rw [if_neg h, if_neg h']

/-- What the results are. -/
def vRes (E : Env) (st : St) : List ResultVar → (List AVal → Prop) → Prop
  | [], k => k []
  | .tmp t :: r, k => vRes E st r (fun l => k (lk st.slots t :: l))
  | .cell t T :: r, k => vLoad E T st (lk st.slots t) (fun a => vRes E st r (fun l => k (a :: l)))
def packRes : List AVal → AVal
  | [a] => a
  | l => .tup l
def packVal : List Value → Value
  | [v] => v
  | l => .tuple l.toArray

def resOf (tmps : Array Value) : ResultVar → Sem Value
  | .tmp t => pure (tmps.getD t undef)
  | .cell ad t => do loadVar t (← asAddr (tmps.getD ad undef))
theorem vRes_ok (hE : EnvOk P E) {n : Nat} {c : Ctx} {st : St} {a : Act} {w : World} (hst : RelSt n c st a w) : ∀ (l : List ResultVar) (k : List AVal → Prop), vRes E st l k →
    ∃ vs rs, (l.mapM (resOf a.tmps)).run P w = .ok vs w ∧ RelCs c rs vs ∧ k rs
  | [], k, hk => ⟨[], [], rfl, ⟨rfl, fun i hi => by simp at hi⟩, hk⟩
  | .tmp t :: r, k, hk => by
    obtain ⟨vs, rs, h1, h2, h3⟩ := vRes_ok hE hst r _ hk
    refine ⟨a.tmps.getD t undef :: vs, _ :: rs, ?_, ?_, h3⟩
    · rw [List.mapM_cons]
      simp only [Sem.run_bind, resOf, Sem.run_pure, Result.andThen_ok, h1]
    · have := RelCs.append (c := c) (as := [lk st.slots t]) (us := [a.tmps.getD t undef]) ⟨rfl, fun i hi => (by
        have h0 : i = 0 := by simpa using hi
        subst h0; exact hst.slots t)⟩ h2
      simpa using this
  | .cell t T :: r, k, hk => by
    obtain ⟨z, a1, g1, g2, g3⟩ := vLoad_ok hE hk hst (hst.slots t)
    obtain ⟨vs, rs, h1, h2, h3⟩ := vRes_ok hE hst r _ g3
    have g1' : (do loadVar T (← asAddr (a.tmps.getD t undef)) : Sem Value).run P w = .ok z w := by
      unfold Instr.loadAt at g1
      generalize a.tmps.getD t undef = q at *
      cases q with
      | pointer ao => cases ao with
        | none => simp [Instr.sureAddr, stuck, Sem.run, Result.andThen] at g1
        | some ao => simpa [Instr.sureAddr, asAddr] using g1
      | _ => simp [Instr.sureAddr, stuck, Sem.run, Result.andThen] at g1
    refine ⟨z :: vs, a1 :: rs, ?_, ?_, h3⟩
    · rw [List.mapM_cons, Sem.run_bind]
      show ((do loadVar T (← asAddr (a.tmps.getD t undef)) : Sem Value).run P w).andThen _ = _
      rw [g1']
      simp only [Result.andThen_ok, Sem.run_bind, h1, Sem.run_pure]
    · have := RelCs.append (c := c) (as := [a1]) (us := [z]) ⟨rfl, fun i hi => (by
        have h0 : i = 0 := by simpa using hi
        subst h0; exact g2)⟩ h2
      simpa using this


theorem run_results {fn : Func} {tmps : Array Value} {w : World} {vs : List Value}
    (h : (fn.results.toList.mapM (resOf tmps)).run P w = .ok vs w) :
    (results fn tmps).run P w = .ok (packVal vs) w := by
  have e : results fn tmps = (do let vs ← fn.results.mapM (resOf tmps); pure (if h : vs.size = 1 then vs[0] else .tuple vs)) := by
    unfold results
    congr 1
  rw [e, Sem.run_bind, Array.mapM_eq_mapM_toList]
  simp only [map_eq_pure_bind, Sem.run_bind]
  rw [h]
  simp only [Result.andThen_ok, Sem.run_pure]
  match vs with
  | [] => rfl
  | [v] => rfl
  | a :: b :: r => simp [packVal]

/-- THE RESULTS, HANDED OVER: what the function hands back, over the boxes that its caller sees. -/
def FinOk (n : Nat) (st : St) (r r' : AVal) (H' : List ABox) : Prop :=
  ∀ c v w, st.base.length = n → RelV c r v → RelH c (st.base ++ st.loc) w → ∃ c', ExtB n c c' ∧ RelV c' r' v ∧ RelH c' H' w

def retQ (E : Env) (n : Nat) (results : List ResultVar) (R : AVal → List ABox → Prop) : Exit → St → Prop
  | .ret, st => vRes E st results (fun l => ∃ r' H', FinOk n st (packRes l) r' H' ∧ R r' H')
  | .normal, st => vRes E st results (fun l => ∃ r' H', FinOk n st (packRes l) r' H' ∧ R r' H')
  | _, _ => False

theorem RelCs.pack {c : Ctx} {rs : List AVal} {vs : List Value} (h : RelCs c rs vs) : RelV c (packRes rs) (packVal vs) := by
  obtain ⟨hl, h⟩ := h
  match rs, vs, hl with
  | [], [], _ => exact .tup rfl (fun i hi => by simp at hi)
  | [a], [v], _ => exact h 0 (by simp)
  | a :: b :: r, v :: u :: s, hl => exact .tup hl.symm h

/-- A FUNCTION: its body from its beginning. -/
theorem AC.enter (hE : EnvOk P E) {f : FuncId} {fn : Func} {code : Code} {args : List AVal} {H : List ABox} {R : AVal → List ABox → Prop} (hf : P.funcs[f]? = some fn) (hb : fn.body = some code)
    (hnm : (fn.name == "runtime.NumGoroutine") = false) {N : Nat} (hN : fn.ntmps = N) {rs : List ResultVar} (hres : fn.results = rs.toArray) (hargs : args.length ≤ N)
    (h : BaseLt H.length H → AW P H.length code (retQ E H.length rs R) ⟨N, initS 0 args, H, []⟩) : AC P f args H R := by
  subst hN
  have hrs : fn.results.toList = rs := by rw [hres]
  rw [← hrs] at h
  refine ⟨⟨fn, hf, by rw [hb]; rfl, hnm⟩, fun c vs w hv hh => ?_⟩
  have hl := hv.1
  refine calls_of_wp hf hb ?_
  have hst : RelSt H.length c ⟨fn.ntmps, initS 0 args, H, []⟩ { tmps := vs.toArray ++ Array.replicate (fn.ntmps - vs.toArray.size) undef, defers := [] } w := by
    refine ⟨rfl, by simp; omega, fun t => ?_, by simpa using hh, rfl⟩
    show RelV c (lk (initS 0 args) t) _
    rw [lk_initS]
    by_cases ht : 0 ≤ t ∧ t < 0 + args.length
    · rw [if_pos ht]
      have h1 : t < args.length := by omega
      have h2 := hv.2 t h1
      have h3 : (vs.toArray ++ Array.replicate (fn.ntmps - vs.toArray.size) undef).getD t undef = vs.getD t undef := by
        have h4 : t < vs.length := by omega
        simp [Array.getElem?_append, h4, List.getD]
      rw [h3]; exact h2
    · rw [if_neg ht]; exact .junk _
  refine wp_mono (h hh.baseLt c _ w hst) ?_
  rintro e a' w' ⟨c', st', he, hr, hq⟩
  have fin : vRes E st' fn.results.toList (fun l => ∃ r' H', FinOk H.length st' (packRes l) r' H' ∧ R r' H') →
      a'.defers = [] ∧ ∃ v, (results fn a'.tmps).run P w' = .ok v w' ∧ ∃ c'' r v' H', Ext c c'' ∧ Ending.returned v = .returned v' ∧ RelV c'' r v' ∧ RelH c'' H' w' ∧ R r H' := by
    intro hres
    obtain ⟨us, rs, g1, g2, r', H', g3, g4⟩ := vRes_ok hE hr _ _ hres
    obtain ⟨c'', he2, hv2, hh2⟩ := g3 c' _ w' hr.hn g2.pack hr.heap
    refine ⟨hr.defers, _, run_results g1, c'', r', _, H', ?_, rfl, hv2, hh2, g4⟩
    exact ⟨(he.trans he2).toSExt, fun k l hk => (he.trans he2).loc k l (hh.lt hk) hk⟩
  cases e with
  | ret => exact fin hq
  | normal => exact fin hq
  | _ => exact hq.elim

/-- A result that bears no number of the call's own: the call's own boxes are forgotten. -/
theorem FinOk.drop {n : Nat} {st : St} {r : AVal} (hB : BaseLt n st.base) (hr : IdsLt n r) : FinOk n st r r st.base := by
  intro c v w hn hv hh
  refine ⟨c.sel n [], c.sel_ext n [], hv.extB (c.sel_ext n []) hr, ?_⟩
  have := hh.sel (idx := []) (L' := []) hB hn trivial List.nodup_nil
  simpa using this
/-- Boxes of the call's own are handed over, by their indices. -/
theorem FinOk.keep {n : Nat} {st : St} {r r' : AVal} (idx : List Nat) {L : List ABox} (hB : BaseLt n st.base) (hnd : idx.Nodup) (hL : RenL n idx st.loc L idx) (hr : RenV n idx r' r) : FinOk n st r r' (st.base ++ L) := by
  intro c v w hn hv hh
  exact ⟨c.sel n idx, c.sel_ext n idx, hv.ren hr, hh.sel hB hn hL hnd⟩


/-! ### Steps of a walk -/
section
variable {n : Nat} {Q : Exit → St → Prop} {st : St}
theorem AW.sreg (hE : EnvOk P E) {id : Nat} {l : List Oper} {y : Code} (h : ∀ K : St → Prop, (∀ st', AW P n y Q st' → K st') → vcL P E l l st K) : AW P n (.seq (.region id l.toArray false) y) Q st :=
  AW.seq (AW.region hE h)
theorem thenQ_n {K : St → Prop} {st : St} (h : K st) : thenQ K Q .normal st := h
theorem blockQ_same {id : Nat} (h : Q .normal st) : blockQ id Q (.exit id) st := by simp only [blockQ, if_true]; exact h
theorem blockQ_ne {id id' : Nat} (hne : id' ≠ id) (h : Q (.exit id') st) : blockQ id Q (.exit id') st := by simp only [blockQ, if_neg hne]; exact h
theorem retQ_drop {results : List ResultVar} {R : AVal → List ABox → Prop} (h : vRes E st results (fun l => ∃ r' H', FinOk n st (packRes l) r' H' ∧ R r' H')) : retQ E n results R .ret st := h
theorem fin_drop {R : AVal → List ABox → Prop} {r : AVal} (hB : BaseLt n st.base) (hr : IdsLt n r) (h : R r st.base) : ∃ r' H', FinOk n st r r' H' ∧ R r' H' := ⟨r, _, FinOk.drop hB hr, h⟩
end

end Go.Eng

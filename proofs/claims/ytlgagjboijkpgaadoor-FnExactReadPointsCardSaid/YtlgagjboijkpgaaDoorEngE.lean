/- The engine, part E: build, slices: literals, make, slicing, append. -/
import Derived.Test.YtlgagjboijkpgaaDoorEngD
set_option linter.unusedSimpArgs false
set_option linter.unusedVariables false
namespace Go.Eng
variable {P : Program} {E : Env}

/-- Cells as abstract ones say. -/
def RelCs (c : Ctx) (cs : List AVal) (vs : List Value) : Prop := vs.length = cs.length ∧ ∀ i, i < cs.length → RelV c (cs.getD i .junk) (vs.getD i undef)

theorem RelCs.ofVals (c : Ctx) (l : List Value) : RelCs c (l.map .v) l := ⟨by simp, fun i hi => by rw [getD_map_v _ _ (by simpa using hi)]; exact .v _⟩

/-- 'fill', on abstract cells. -/
def fillA (place : Nat → Option (Nat × Nat)) (cs : List AVal) : List (Nat × AVal) → Option (List AVal)
  | [] => some cs
  | (i, x) :: rest =>
    match place i, x.flat with
    | some (off, size), some vs => if vs.length = size ∧ off + size ≤ cs.length then fillA place (setRange cs off vs) rest else none
    | _, _ => none

theorem foldl_set (off : Nat) : ∀ (l : List Value) (k : Nat) (cells : Array Value), off + k + l.length ≤ cells.size →
    ((l.zipIdx k).foldl (fun cs (p : Value × Nat) => cs.setIfInBounds (off + p.2) p.1) cells).toList = cells.toList.take (off + k) ++ l ++ cells.toList.drop (off + k + l.length)
  | [], k, cells, _ => by simp
  | v :: l, k, cells, h => by
    simp only [List.zipIdx_cons, List.foldl_cons]
    rw [foldl_set off l (k + 1) _ (by simp at h ⊢; omega)]
    have e := list_seg_step cells.toList (off + k) v l (by simp at h ⊢; omega)
    simp only [Array.toList_setIfInBounds]
    rw [← Nat.add_assoc]
    simpa using e

theorem fill_ok {c : Ctx} (place : Nat → Option (Nat × Nat)) : ∀ (parts : List (Nat × AVal)) (ps : List (Nat × Value)) (cs cs' : List AVal) (cells : Array Value),
    RelCs c cs cells.toList → parts.length = ps.length → (∀ j, j < parts.length → (parts.getD j (0, .junk)).1 = (ps.getD j (0, undef)).1 ∧ RelV c (parts.getD j (0, .junk)).2 (ps.getD j (0, undef)).2) →
    fillA place cs parts = some cs' → ∃ cells', Instr.fill place cells ps = some cells' ∧ RelCs c cs' cells'.toList
  | [], [], cs, cs', cells, h, _, _, hf => by simp [fillA] at hf; subst hf; exact ⟨cells, rfl, h⟩
  | [], _ :: _, _, _, _, _, h, _, _ => by simp at h
  | _ :: _, [], _, _, _, _, h, _, _ => by simp at h
  | (i, x) :: parts, (i', u) :: ps, cs, cs', cells, h, hl, hp, hf => by
    have h0 := hp 0 (by simp)
    simp at h0
    obtain ⟨rfl, hx⟩ := h0
    simp only [fillA] at hf
    split at hf
    · rename_i off size vs hpl hfl
      split at hf
      · rename_i hc
        obtain ⟨rfl, hfit⟩ := hc
        obtain ⟨g1, g2⟩ := flat_ok hfl hx
        have hcl := h.1
        have hu : u.cells.size = vs.length := by simpa using g1
        have hcond : ¬ (u.cells.size ≠ vs.length || off + u.cells.size > cells.size) = true := by
          simp [hu]
          have : cells.size = cs.length := by simpa using hcl
          omega
        have hfold := foldl_set off u.cells.toList 0 cells (by
          have : cells.size = cs.length := by simpa using hcl
          simp [hu]; omega)
        simp only [Nat.add_zero] at hfold
        have hz : u.cells.zipIdx.foldl (fun cs (p : Value × Nat) => cs.setIfInBounds (off + p.2) p.1) cells = (u.cells.toList.zipIdx.foldl (fun cs (p : Value × Nat) => cs.setIfInBounds (off + p.2) p.1) cells) := by
          rw [← Array.foldl_toList]; simp
        have hrel : RelCs c (setRange cs off vs) (u.cells.toList.zipIdx.foldl (fun cs (p : Value × Nat) => cs.setIfInBounds (off + p.2) p.1) cells).toList := by
          rw [hfold]
          refine ⟨by rw [setRange_length (by omega)]; simp only [List.length_append, List.length_take, List.length_drop]; omega, fun m hm => ?_⟩
          rw [setRange_length (by omega)] at hm
          have hs := stored_get cells off u.cells.toList (by rw [g1]; have : cells.size = cs.length := by simpa using hcl
                                                             omega) m
          rw [setRange_getD (by omega)]
          have hget : (cells.toList.take off ++ u.cells.toList ++ cells.toList.drop (off + u.cells.toList.length)).getD m undef =
              ((cells.toList.take off ++ u.cells.toList ++ cells.toList.drop (off + u.cells.toList.length)).toArray[m]?).getD undef := by
            rw [List.getElem?_toArray]; rfl
          rw [hget, hs, g1]
          by_cases hin : off ≤ m ∧ m < off + vs.length
          · rw [if_pos hin, if_pos hin]; exact g2 (m - off) (by omega)
          · rw [if_neg hin, if_neg hin]
            have := h.2 m hm
            rw [← Array.getElem?_toList]
            exact this
        obtain ⟨cells', hfill, hr⟩ := fill_ok place parts ps _ cs' _ hrel (by simpa using hl) (fun j hj => by
          have := hp (j + 1) (by simpa using hj)
          simpa using this) hf
        refine ⟨cells', ?_, hr⟩
        simp only [Instr.fill, hpl]
        rw [if_neg hcond]
        have e : (u.cells.zipIdx.foldl (fun cs (x : Value × Nat) => match x with | (c, j) => cs.setIfInBounds (off + j) c) cells) = u.cells.zipIdx.foldl (fun cs (p : Value × Nat) => cs.setIfInBounds (off + p.2) p.1) cells := rfl
        rw [e, hz]; exact hfill
      · cases hf
    · cases hf

def partsA (st : St) (ps : List (Nat × Operand)) : List (Nat × AVal) := ps.map fun p => (p.1, st.ev p.2)

def vBuild (E : Env) (T : TypeId) (parts : List (Nat × AVal)) (k : AVal → Prop) : Prop :=
  match E.bld T, E.zero T with
  | some pl, some zs =>
    match fillA (fun i => pl[i]?) (zs.map .v) parts with
    | some cs => k (.agg cs)
    | none => False
  | _, _ => False

theorem partsA_ok {n : Nat} {c : Ctx} {st : St} {a : Act} {w : World} (hst : RelSt n c st a w) (ps : Array (Nat × Operand)) :
    (partsA st ps.toList).length = (ps.map fun (i, x) => (i, a.eval x)).toList.length ∧ ∀ j, j < (partsA st ps.toList).length →
      ((partsA st ps.toList).getD j (0, .junk)).1 = ((ps.map fun (i, x) => (i, a.eval x)).toList.getD j (0, undef)).1 ∧
      RelV c ((partsA st ps.toList).getD j (0, .junk)).2 ((ps.map fun (i, x) => (i, a.eval x)).toList.getD j (0, undef)).2 := by
  refine ⟨by simp [partsA], fun j hj => ?_⟩
  have hj' : j < ps.size := by simpa [partsA] using hj
  simp [partsA, List.getD, hj']
  exact hst.ev _

theorem vBuild_ok (hE : EnvOk P E) {T : TypeId} {st : St} {ps : Array (Nat × Operand)} {k : AVal → Prop} (hk : vBuild E T (partsA st ps.toList) k) {n : Nat} {c : Ctx} {a : Act} {w : World} (hst : RelSt n c st a w) :
    ∃ z r, (Instr.build T (ps.map fun (i, x) => (i, a.eval x))).run P w = .ok z w ∧ RelV c r z ∧ k r := by
  unfold vBuild at hk
  split at hk
  · rename_i pl zs h1 h2
    split at hk
    · rename_i cs hf
      obtain ⟨i, z, b1, b2, b4⟩ := hE.bld _ _ h1 (ps.map fun (i, x) => (i, a.eval x)) w
      obtain ⟨i', z', z1, z2, z3⟩ := hE.zero _ _ h2
      rw [b1] at z1; cases z1; rw [b2] at z2; cases z2
      obtain ⟨hl, hp⟩ := partsA_ok hst ps
      obtain ⟨cells', hfill, hr⟩ := fill_ok _ _ _ _ _ z.cells (by rw [z3]; exact RelCs.ofVals c zs) hl hp hf
      refine ⟨.agg cells', _, ?_, ?_, hk⟩
      · exact b4 _ hfill
      · have := RelV.agg (c := c) (vs := cells'.toList) hr.1.symm hr.2
        simpa using this
    · exact hk.elim
  · exact hk.elim

/-! ### A slice's literal -/
def decAll (e : ETy) : List (Nat × AVal) → Nat → Option (List e.T)
  | [], _ => some []
  | (i, x) :: r, m =>
    if i = m then
      match x.flat with
      | some vs => match e.dec vs, decAll e r (m + 1) with
        | some y, some ys => some (y :: ys)
        | _, _ => none
      | none => none
    else none

/-- A list of one's own that becomes an element: it is sealed. -/
def vSealSl (len : Nat) (st : St) (e : ETy) (parts : List (Nat × AVal)) (k : AVal → List ABox → List ABox → Prop) : Prop :=
  match e, parts with
  | .sli kk, [(0, .sl 1 id 0 m)] =>
    match st.get id with
    | .row false (.int kk') xs => (kk = kk' ∧ m = xs.length ∧ len = 1) ∧ st.setBox id .dead (fun b l => k (.sl 1 st.next 0 1) b (l ++ [.row false (.sli kk) [xs]]))
    | _ => False
  | .slb, [(0, .sl 1 id 0 m)] =>
    match st.get id with
    | .row false .bool xs => (m = xs.length ∧ len = 1) ∧ st.setBox id .dead (fun b l => k (.sl 1 st.next 0 1) b (l ++ [.row false .slb [xs]]))
    | _ => False
  | _, _ => False
def vBuildSl (E : Env) (T : TypeId) (len : Nat) (st : St) (parts : List (Nat × AVal)) (k : AVal → List ABox → List ABox → Prop) : Prop :=
  match E.sl T with
  | some e =>
    match decAll e parts 0 with
    | some xs => (len = xs.length ∧ len ≤ 1000000) ∧ k (.sl e.sz st.next 0 len) st.base (st.loc ++ [.row false e xs])
    | none => vSealSl len st e parts k
  | none => False

/-- The abstract cells that 'fill' leaves are the elements', where all are given in order. -/
theorem fillA_all (e : ETy) : ∀ (parts : List (Nat × AVal)) (m : Nat) (xs : List e.T) (cs : List AVal), decAll e parts m = some xs → cs.length = (m + xs.length) * e.sz →
    fillA (fun i => some (i * e.sz, e.sz)) cs parts = some (cs.take (m * e.sz) ++ xs.flatMap e.enc)
  | [], m, xs, cs, h, hl => by
    simp [decAll] at h; subst h
    simp at hl
    simp only [fillA]
    rw [List.take_of_length_le (by omega)]; simp
  | (i, x) :: r, m, xs, cs, h, hl => by
    simp only [decAll] at h
    split at h
    · rename_i him; subst him
      split at h
      · rename_i vs hf
        split at h
        · rename_i y ys hy hys
          cases h
          have henc := ETy.enc_dec _ _ _ hy
          have hvl : vs.length = e.sz := by rw [← henc, ETy.enc_length]
          have hfit : i * e.sz + e.sz ≤ cs.length := by
            rw [hl, ← Nat.succ_mul]; apply Nat.mul_le_mul_right; simp
          simp only [fillA, hf]
          rw [if_pos ⟨hvl, hfit⟩, fillA_all e r (i + 1) ys _ hys (by rw [setRange_length (by omega), hl]; congr 1; simp; omega)]
          congr 1
          rw [List.flatMap_cons, henc, Nat.succ_mul]
          have : (setRange cs (i * e.sz) vs).take (i * e.sz + e.sz) = cs.take (i * e.sz) ++ vs := by
            unfold setRange
            exact List.take_left' (by simp; omega)
          rw [this, List.append_assoc]
        · cases h
      · cases h
    · cases h


theorem getD_flatMap (e : ETy) : ∀ (xs : List e.T) (i j : Nat), i < xs.length → j < e.sz → (xs.flatMap e.enc).getD (i * e.sz + j) .junk = (e.enc (xs.getD i e.d)).getD j .junk
  | [], i, j, h, _ => by simp at h
  | x :: xs, 0, j, _, hj => by
    rw [List.flatMap_cons, Nat.zero_mul, Nat.zero_add]
    simp only [List.getD, List.getElem?_append, ETy.enc_length, hj, if_true]
    rfl
  | x :: xs, i + 1, j, h, hj => by
    have ih := getD_flatMap e xs i j (by simpa using h) hj
    rw [List.flatMap_cons]
    have e1 : (e.enc x ++ xs.flatMap e.enc).getD ((i + 1) * e.sz + j) .junk = (xs.flatMap e.enc).getD (i * e.sz + j) .junk := by
      have h1 : ¬ ((i + 1) * e.sz + j < e.sz) := by rw [Nat.succ_mul]; omega
      have h2 : (i + 1) * e.sz + j - e.sz = i * e.sz + j := by rw [Nat.succ_mul]; omega
      simp only [List.getD, List.getElem?_append, ETy.enc_length, h1, if_false, h2]
    rw [e1, ih]
    rfl
theorem length_flatMap (e : ETy) (xs : List e.T) : (xs.flatMap e.enc).length = xs.length * e.sz := by
  induction xs with
  | nil => simp
  | cons x xs ih => rw [List.flatMap_cons, List.length_append, ETy.enc_length, ih, List.length_cons, Nat.succ_mul]; omega

/-- A new list of elements. -/
theorem vBuildSl_core (hE : EnvOk P E) {T : TypeId} {e : ETy} (hT : E.sl T = some e) {pa : List (Nat × AVal)} {ps : Array (Nat × Operand)} {a : Act} {c : Ctx} {H : List ABox} {w : World} (hh : RelH c H w)
    (hl : pa.length = (ps.map fun (i, x) => (i, a.eval x)).toList.length)
    (hp : ∀ j, j < pa.length → (pa.getD j (0, .junk)).1 = ((ps.map fun (i, x) => (i, a.eval x)).toList.getD j (0, undef)).1 ∧ RelV c (pa.getD j (0, .junk)).2 ((ps.map fun (i, x) => (i, a.eval x)).toList.getD j (0, undef)).2)
    {xs : List e.T} (hd : decAll e pa 0 = some xs) (hsm : xs.length ≤ 1000000) :
    ∃ z w' c', (Instr.buildSlice T xs.length (ps.map fun (i, x) => (i, a.eval x))).run P w = .ok z w' ∧ Ext c c' ∧ RelV c' (.sl e.sz H.length 0 xs.length) z ∧ RelH c' (H ++ [.row false e xs]) w' := by
  obtain ⟨et, i, z, t1, t2, t3, t4, t5, t6⟩ := hE.sl _ _ hT
  have hszle : e.sz ≤ 2 := by cases e <;> simp [ETy.sz]
  -- the zero cells
  have hz : ∃ zero : Array Value, (xs.length * e.sz = 0 → zero = #[]) ∧ (¬ xs.length * e.sz = 0 → zero = z.cells) := by
    by_cases h0 : xs.length * e.sz = 0
    · exact ⟨#[], fun _ => rfl, fun h => absurd h0 h⟩
    · exact ⟨z.cells, fun h => absurd h h0, fun _ => rfl⟩
  obtain ⟨zero, hz0, hz1⟩ := hz
  let cells0 : Array Value := (Array.range (xs.length * e.sz)).map (zero[· % zero.size]!)
  have hc0 : RelCs c (cells0.toList.map .v) cells0.toList := RelCs.ofVals c _
  have hfA := fillA_all e _ 0 xs (cells0.toList.map .v) hd (by simp [cells0])
  simp only [Nat.zero_mul, List.take_zero, List.nil_append] at hfA
  obtain ⟨cells', hfill, hr⟩ := fill_ok _ _ _ _ _ cells0 hc0 hl hp hfA
  have hrl : cells'.size = xs.length * e.sz := by
    have := hr.1; rw [length_flatMap] at this; simpa using this
  obtain ⟨c', he, hloc, hh2⟩ := hh.newRow cells' et e xs xs.length (by omega) (Nat.le_refl _) (fun p q hp' hq => by
    have hlt : p * e.sz + q < (xs.flatMap e.enc).length := by
      rw [length_flatMap]
      have : p * e.sz + e.sz ≤ xs.length * e.sz := by rw [← Nat.succ_mul]; exact Nat.mul_le_mul_right _ hp'
      omega
    have := hr.2 _ hlt
    rwa [getD_flatMap e xs p q hp' hq] at this)
  refine ⟨.slice (some ⟨w.heap.size, 0, none⟩) xs.length xs.length, _, c', ?_, he, ?_, hh2⟩
  · have hnl : ¬ (xs.length * i.size > 2 ^ 24) := by
      rw [t3]
      have : xs.length * e.sz ≤ 1000000 * 2 := Nat.mul_le_mul hsm hszle
      omega
    have hnl' : ¬ (16777216 < xs.length * e.sz) := by
      have : xs.length * e.sz ≤ 1000000 * 2 := Nat.mul_le_mul hsm hszle
      omega
    simp only [Instr.buildSlice, Sem.run_bind, run_underlying t1, Result.andThen_ok, run_sizeOf t2, t3]
    rw [if_neg (by simpa using hnl')]
    have hfill' : Instr.fill (fun i => some (i * e.sz, e.sz)) (Array.map (fun x => zero[x % zero.size]!) (Array.range (xs.length * e.sz))) (Array.map (fun x => (x.fst, a.eval x.snd)) ps).toList = some cells' := hfill
    by_cases h0 : xs.length * e.sz = 0
    · rw [if_pos h0]
      have := hz0 h0
      rw [this] at hfill'
      simp only [Sem.run_bind, Sem.run_pure, Result.andThen_ok, hfill']
      rfl
    · rw [if_neg h0]
      have := hz1 h0
      rw [this] at hfill'
      have hzv : (zeroValue et).run P w = .ok z w := by simp [zeroValue, typeInfo, t2, t4]
      simp only [Sem.run_bind, Sem.run_pure, Result.andThen_ok, hzv, hfill']
      rfl
  · have := RelV.sl (c := c') (sz := e.sz) (off := 0) (n := xs.length) (b := w.heap.size) (o := 0) hloc (by simp) (fun _ => ⟨rfl, by simp⟩)
    simpa using this
/-- A list of one's own, sealed where it stands. -/
theorem RelH.sealRow {c : Ctx} {H : List ABox} {w : World} (hh : RelH c H w) {id : Nat} {e : ETy} {xs : List e.T} (hg : H[id]? = some (.row false e xs)) :
    ∃ c', Ext c c' ∧ RelH c' (H.set id .dead) w ∧ ∀ v, RelV c (.sl e.sz id 0 xs.length) v → RelV c' (.rd e xs) v := by
  obtain ⟨l, hl, cells, T, h1, h2, h3, h4, h5⟩ := hh.box _ _ hg rfl
  have h2' : c.sealed l.blk = none := h2
  let c' : Ctx := { c with sealed := fun q => if q = l.blk then some (.cells cells T (0, 0)) else c.sealed q }
  have he : Ext c c' := ⟨⟨rfl, rfl, rfl, fun q o hq => by
    show (if q = l.blk then _ else c.sealed q) = some o
    by_cases eq : q = l.blk
    · rw [eq, h2'] at hq; cases hq
    · rw [if_neg eq]; exact hq⟩, fun _ _ h => h⟩
  have hs : c'.sealed l.blk = some (.cells cells T (0, 0)) := if_pos rfl
  have key : ∀ (q : Nat) (X : ABox), (H.set id .dead)[q]? = some X → X.live = true → q ≠ id ∧ H[q]? = some X := fun q X hq hX => by
    rw [List.getElem?_set] at hq
    split at hq
    · split at hq
      · cases hq; cases hX
      · cases hq
    · rename_i h; exact ⟨fun e => h e.symm, hq⟩
  have hother : ∀ (q : Nat) (X : ABox) (l' : Loc), H[q]? = some X → X.live = true → q ≠ id → c.loc q = some l' → c'.sealed l'.blk = c.sealed l'.blk := fun q X l' hq hX' hne hl' => by
    refine if_neg fun eq => hne ?_
    exact hh.inj q id l' l X _ hq hX' hg rfl hl' hl eq
  refine ⟨c', he, ⟨hh.os, hh.tape, hh.output, fun q o hq => ?_, fun q hq => ?_, fun q X' hq hX' => ?_, ?_⟩, fun v hv => ?_⟩
  · by_cases eq : q = l.blk
    · rw [eq, hs] at hq; cases hq; rw [eq]; exact h1
    · exact hh.sealed q o (by have := hq; rwa [show c'.sealed q = c.sealed q from if_neg eq] at this)
  · exact hh.dom q (by simpa using hq)
  · obtain ⟨g1, g2⟩ := key q X' hq hX'
    obtain ⟨l', hl', hB⟩ := hh.box q X' g2 hX'
    exact ⟨l', hl', hB.carry he (fun _ => rfl) (fun _ => hother q X' l' g2 hX' g1 hl')⟩
  · intro q q' l1 l2 X1 X2 hq hX1 hq' hX2 hl1 hl2 hb
    obtain ⟨_, g1⟩ := key q X1 hq hX1
    obtain ⟨_, g2⟩ := key q' X2 hq' hX2
    exact hh.inj q q' l1 l2 X1 X2 g1 hX1 g2 hX2 hl1 hl2 hb
  · cases hv with
    | @sl _ _ _ _ b o l2 hl2 hn ha =>
      rw [hl] at hl2; cases hl2
      refine .rd (fun i j => cells.getD (l.off + i * e.sz + j) undef) rfl (by omega) (fun hp => ?_) (fun i j hi hj => ?_)
      · obtain ⟨rfl, rfl⟩ := ha (by omega)
        refine ⟨l.blk, l.off, cells, T, (0, 0), by simp, hs, fun i j hi hj => ?_⟩
        obtain ⟨u, hu, _⟩ := h5 i j (by omega) hj
        rw [hu]
        simp only [Array.getD_eq_getD_getElem?]
        rw [hu]; rfl
      · obtain ⟨u, hu, hr⟩ := h5 i j (by omega) hj
        have e3 : cells.getD (l.off + i * e.sz + j) undef = u := by
          simp only [Array.getD_eq_getD_getElem?]
          rw [hu]; rfl
        rw [e3]; exact hr.ext he
theorem vSealSl_ok (hE : EnvOk P E) {T : TypeId} {e e0 : ETy} (hT : E.sl T = some e) (h1 : e.sz = 1) (h0 : e0.sz = 1) {st : St} {ps : Array (Nat × Operand)} {id m : Nat} {k : AVal → List ABox → List ABox → Prop}
    (hps : partsA st ps.toList = [(0, .sl 1 id 0 m)]) {xs : List e0.T} (hb : st.get id = .row false e0 xs) (hm : m = xs.length) {x : e.T} (hx : e.enc x = [.rd e0 xs]) (hd : decAll e [(0, .rd e0 xs)] 0 = some [x])
    (hk : st.setBox id .dead (fun b l => k (.sl 1 st.next 0 1) b (l ++ [.row false e [x]]))) {n : Nat} {c : Ctx} {a : Act} {w : World} (hst : RelSt n c st a w) :
    ∃ z w' c' r b l, (Instr.buildSlice T 1 (ps.map fun (i, x) => (i, a.eval x))).run P w = .ok z w' ∧ Ext c c' ∧ RelV c' r z ∧ RelH c' (b ++ l) w' ∧ b.length = n ∧ k r b l := by
  obtain ⟨b', l', hbl, hn', hK⟩ := St.setBox_ok hk hst.hn
  obtain ⟨c1, he1, hh1, hv1⟩ := hst.heap.sealRow (St.get_some hb rfl)
  obtain ⟨hl, hp⟩ := partsA_ok hst ps
  rw [hps] at hl hp
  have hp0 := hp 0 (by simp)
  subst hm
  obtain ⟨z, w', c', g1, g2, g3, g4⟩ := vBuildSl_core hE hT (pa := [(0, .rd e0 xs)]) (ps := ps) (a := a) hh1 hl (fun j hj => by
    have hj0 : j = 0 := by simpa using hj
    subst hj0
    refine ⟨hp0.1, hv1 _ ?_⟩
    rw [h0]; exact hp0.2) hd (by simp)
  refine ⟨z, w', c', _, b', _, g1, he1.trans g2, ?_, by rw [← List.append_assoc, hbl]; exact g4, hn', hK⟩
  rw [h1] at g3
  simpa [St.next] using g3
/-- A list built. -/
theorem vBuildSl_ok (hE : EnvOk P E) {T : TypeId} {len : Nat} {st : St} {ps : Array (Nat × Operand)} {k : AVal → List ABox → List ABox → Prop} (hk : vBuildSl E T len st (partsA st ps.toList) k)
    {n : Nat} {c : Ctx} {a : Act} {w : World} (hst : RelSt n c st a w) :
    ∃ z w' c' r b l, (Instr.buildSlice T len (ps.map fun (i, x) => (i, a.eval x))).run P w = .ok z w' ∧ Ext c c' ∧ RelV c' r z ∧ RelH c' (b ++ l) w' ∧ b.length = n ∧ k r b l := by
  unfold vBuildSl at hk
  split at hk
  · rename_i e hT
    split at hk
    · rename_i xs hd
      obtain ⟨⟨rfl, hsm⟩, hk⟩ := hk
      obtain ⟨hl, hp⟩ := partsA_ok hst ps
      obtain ⟨z, w', c', g1, g2, g3, g4⟩ := vBuildSl_core hE hT hst.heap hl hp hd hsm
      refine ⟨z, w', c', _, st.base, _, g1, g2, ?_, by rw [← List.append_assoc]; exact g4, hst.hn, hk⟩
      simpa [St.next] using g3
    · unfold vSealSl at hk
      split at hk
      · rename_i kk id m hps _ _
        split at hk
        · rename_i kk' xs hb
          obtain ⟨⟨rfl, hm, rfl⟩, hk⟩ := hk
          exact vSealSl_ok hE (e0 := .int kk) hT rfl rfl hps hb hm (x := xs) rfl (by simp [decAll, ETy.dec, AVal.flat]) hk hst
        · exact hk.elim
      · rename_i id m hps _ _
        split at hk
        · rename_i xs hb
          obtain ⟨⟨hm, rfl⟩, hk⟩ := hk
          exact vSealSl_ok hE (e0 := .bool) hT rfl rfl hps hb hm (x := xs) rfl (by simp [decAll, ETy.dec, AVal.flat]) hk hst
        · exact hk.elim
      · exact hk.elim
  · exact hk.elim

/-! ### make -/
def vMake (E : Env) (T : TypeId) (st : St) (x y : AVal) (k : AVal → List ABox → List ABox → Prop) : Prop :=
  match E.sl T, x, y with
  | some e, .v (.int _ m), .v (.int _ q) => (0 ≤ m ∧ m ≤ q ∧ q ≤ 1000000000) ∧ k (.sl e.sz st.next 0 m.toNat) st.base (st.loc ++ [.row false e (List.replicate m.toNat e.d)])
  | _, _, _ => False

theorem vMake_ok (hE : EnvOk P E) {T : TypeId} {st : St} {X Y : AVal} {k : AVal → List ABox → List ABox → Prop} (hk : vMake E T st X Y k) {n : Nat} {c : Ctx} {a : Act} {w : World} (hst : RelSt n c st a w)
    {u v : Value} (hx : RelV c X u) (hy : RelV c Y v) :
    ∃ z w' c' r b l, (Instr.makeSlice T u v).run P w = .ok z w' ∧ Ext c c' ∧ RelV c' r z ∧ RelH c' (b ++ l) w' ∧ b.length = n ∧ k r b l := by
  unfold vMake at hk
  split at hk
  · rename_i e k1 m k2 q hT
    obtain ⟨⟨h0, h1, h2⟩, hk⟩ := hk
    have e1 := hx.v_inv; subst e1
    have e2 := hy.v_inv; subst e2
    obtain ⟨et, i, z, t1, t2, t3, t4, t5, t6, t7⟩ := hE.sl _ _ hT
    have hrun := run_make (P := P) w T et i z t1 t2 t4 k1 k2 m q h0 h1 (by
      have : (i.bytes : Int) ≤ 64 := by omega
      calc (i.bytes : Int) * q ≤ 64 * q := Int.mul_le_mul_of_nonneg_right this (by omega)
        _ ≤ 281474976710656 := by omega) (by omega)
    obtain ⟨c', he, hloc, hh⟩ := hst.heap.newRow (madeCells z.cells (q.toNat * i.size)) et e (List.replicate m.toNat e.d) q.toNat (by rw [size_madeCells, t3]; exact Nat.le_refl _) (by simp; omega) (fun p j hp hj => by
      have hp' : p < m.toNat := by simpa using hp
      have hgd : (List.replicate m.toNat e.d).getD p e.d = e.d := by simp [List.getD, hp']
      have hcell : (madeCells z.cells (q.toNat * i.size)).toList.getD (p * e.sz + j) undef = z.cells.toList.getD j undef := by
        have hlt : p * e.sz + j < q.toNat * i.size := by
          rw [t3]
          have : p * e.sz + e.sz ≤ q.toNat * e.sz := by rw [← Nat.succ_mul]; exact Nat.mul_le_mul_right _ (by omega)
          omega
        have hmod : (p * e.sz + j) % z.cells.size = j := by rw [t5, Nat.mul_comm, Nat.mul_add_mod]; exact Nat.mod_eq_of_lt hj
        have hjs : j < z.cells.size := by omega
        simp [madeCells, List.getD, hlt, hmod, hjs, getElem!_pos]
      rw [hgd, hcell]
      rcases t7 j hj with h | ⟨e', h, h'⟩
      · rw [h]; exact .v _
      · rw [h, h']; exact .rd (fun _ _ => undef) rfl (Nat.le_refl _) (fun h => absurd h (by omega)) (fun i j hi => absurd hi (by omega)))
    refine ⟨_, _, c', _, st.base, _, hrun, he, ?_, by rw [← List.append_assoc]; exact hh, hst.hn, hk⟩
    have := RelV.sl (c := c') (sz := e.sz) (off := 0) (n := m.toNat) (b := w.heap.size) (o := 0) hloc (by show 0 + m.toNat ≤ q.toNat; omega) (fun _ => ⟨rfl, by simp⟩)
    simpa [St.next] using this
  · exact hk.elim

end Go.Eng

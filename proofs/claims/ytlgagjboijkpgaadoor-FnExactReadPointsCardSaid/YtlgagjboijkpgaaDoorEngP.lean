/- The engine, part P: maps: made, looked into, written, ranged over. -/
import Derived.Test.YtlgagjboijkpgaaDoorEngG
import Derived.MapKept
import Derived.Maps.RangeRun
set_option linter.unusedSimpArgs false
set_option linter.unusedVariables false
namespace Go.Eng
open Go.ChangeMaps (setBlock)
variable {P : Program} {E : Env}

def KK.of : (kk : KK) → AVal → Option kk.T
  | .int k, .v (.int k' n) => if k = k' then some n else none
  | .pt, .agg [.v (.int .i64 a), .v (.int .i64 b)] => some (a, b)
  | .str, .v (.string s) => some s
  | _, _ => none
theorem KK.of_ok {kk : KK} {a : AVal} {k : kk.T} (h : kk.of a = some k) {c : Ctx} {u : Value} (hr : RelV c a u) : u = kk.val k := by
  unfold KK.of at h
  split at h
  · split at h
    · rename_i hk; subst hk; cases h; exact hr.v_inv
    · cases h
  · cases h; exact hr.agg2_inv
  · cases h; exact hr.v_inv
  · cases h
def KK.av : (kk : KK) → kk.T → AVal
  | .int k, n => .v (.int k n)
  | .pt, p => .agg [.v (.int .i64 p.1), .v (.int .i64 p.2)]
  | .str, s => .v (.string s)
theorem KK.av_ok {kk : KK} {k : kk.T} {c : Ctx} : RelV c (kk.av k) (kk.val k) := by
  cases kk with
  | int => exact .v _
  | pt => exact RelV.agg (vs := [.int .i64 k.1, .int .i64 k.2]) rfl (fun i hi => by
      have hi' : i < 2 := hi
      match i, hi' with
      | 0, _ => exact .v _
      | 1, _ => exact .v _)
  | str => exact .v _
theorem sameBits_self (kk : KK) (k : kk.T) : Instr.sameBits 10000 (kk.val k) (kk.val k) = true := by
  cases kk with
  | int => simp [KK.val, Instr.sameBits]
  | pt => simp [KK.val, Instr.sameBits]
  | str => exact (MapKept.bytes_beq k k).2 rfl

theorem entsF_length (kk : KK) : ∀ (es : List (kk.T × Value)) (i : Nat), (entsF kk i es).length = es.length
  | [], _ => rfl
  | x :: r, i => by simp [entsF, entsF_length kk r]
theorem entsF_get (kk : KK) : ∀ (es : List (kk.T × Value)) (i j : Nat) (x : kk.T × Value), es[j]? = some x → (entsF kk i es)[j]? = some ⟨kk.val x.1, x.2, i + j⟩
  | y :: r, i, 0, x, h => by simp at h; subst h; rfl
  | y :: r, i, j + 1, x, h => by
    have := entsF_get kk r (i + 1) j x (by simpa using h)
    simp only [entsF, List.getElem?_cons_succ, this]
    congr 2; omega
theorem entsF_mem (kk : KK) : ∀ (es : List (kk.T × Value)) (i : Nat) (e : MapEntry), e ∈ entsF kk i es → ∃ j x, es[j]? = some x ∧ e = ⟨kk.val x.1, x.2, i + j⟩
  | y :: r, i, e, h => by
    rcases List.mem_cons.1 h with rfl | h
    · exact ⟨0, y, rfl, rfl⟩
    · obtain ⟨j, x, h1, rfl⟩ := entsF_mem kk r (i + 1) e h
      exact ⟨j + 1, x, by simpa using h1, by congr 1; omega⟩

def putK (kk : KK) (k : kk.T) (v : Value) : List (kk.T × Value) → List (kk.T × Value)
  | [] => [(k, v)]
  | x :: r => if k = x.1 then (x.1, v) :: r else x :: putK kk k v r
/-- The element at a place, written. -/
def setVK (kk : KK) (v : Value) : Nat → List (kk.T × Value) → List (kk.T × Value)
  | _, [] => []
  | 0, x :: r => (x.1, v) :: r
  | j + 1, x :: r => x :: setVK kk v j r
theorem setVK_length (kk : KK) (v : Value) : ∀ (j : Nat) (es : List (kk.T × Value)), (setVK kk v j es).length = es.length
  | _, [] => by cases ‹Nat› <;> rfl
  | 0, x :: r => rfl
  | j + 1, x :: r => by simp [setVK, setVK_length kk v j r]

theorem look_some (kk : KK) (k : kk.T) : ∀ (es : List (kk.T × Value)) (j q : Nat) (v : Value), lookK kk k es j = some (q, v) → ∃ p, q = j + p ∧ es[p]? = some (k, v)
  | x :: r, j, q, v, h => by
    unfold lookK at h
    split at h
    · rename_i he
      cases h
      exact ⟨0, rfl, by rw [he]; rfl⟩
    · obtain ⟨p, h1, h2⟩ := look_some kk k r (j + 1) q v h
      exact ⟨p + 1, by omega, by simpa using h2⟩
theorem look_shift (kk : KK) (k : kk.T) : ∀ (es : List (kk.T × Value)) (j : Nat), lookK kk k es j = (lookK kk k es 0).map (fun x => (j + x.1, x.2))
  | [], _ => rfl
  | x :: r, j => by
    unfold lookK
    split
    · rfl
    · rw [look_shift kk k r (j + 1), look_shift kk k r (0 + 1)]
      cases lookK kk k r 0 with
      | none => rfl
      | some y => simp; omega
theorem put_none (kk : KK) (k : kk.T) (v : Value) : ∀ (es : List (kk.T × Value)) (j : Nat), lookK kk k es j = none → putK kk k v es = es ++ [(k, v)]
  | [], _, _ => rfl
  | x :: r, j, h => by
    unfold lookK at h
    split at h
    · cases h
    · rename_i hne
      simp [putK, hne, put_none kk k v r (j + 1) h]
theorem put_some (kk : KK) (k : kk.T) (v : Value) : ∀ (es : List (kk.T × Value)) (j p : Nat) (v0 : Value), lookK kk k es j = some (j + p, v0) → putK kk k v es = setVK kk v p es
  | x :: r, j, p, v0, h => by
    unfold lookK at h
    split at h
    · rename_i he
      have : p = 0 := by
        have := congrArg (Option.map Prod.fst) h
        simp at this; omega
      subst this
      simp [putK, he, setVK]
    · rename_i hne
      obtain ⟨q, h1, h2⟩ := look_some kk k r (j + 1) (j + p) v0 h
      have hp : p = q + 1 := by omega
      subst hp
      simp [putK, hne, setVK, put_some kk k v r (j + 1) q v0 (by rw [h, show j + 1 + q = j + (q + 1) by omega])]
theorem ents_append (kk : KK) (x : kk.T × Value) : ∀ (es : List (kk.T × Value)) (i : Nat), entsF kk i (es ++ [x]) = entsF kk i es ++ [⟨kk.val x.1, x.2, i + es.length⟩]
  | [], i => rfl
  | y :: r, i => by
    simp only [List.cons_append, entsF, ents_append kk x r (i + 1), List.length_cons]
    rw [show i + 1 + r.length = i + (r.length + 1) by omega]
theorem ents_set (kk : KK) (v : Value) : ∀ (es : List (kk.T × Value)) (i p : Nat), entsF kk i (setVK kk v p es) = (entsF kk i es).modify p (fun e => { e with val := v })
  | [], i, p => by cases p <;> rfl
  | x :: r, i, 0 => rfl
  | x :: r, i, p + 1 => by simp only [setVK, entsF, ents_set kk v r (i + 1) p, List.modify_succ_cons]
theorem ents_setKey (kk : KK) (k : kk.T) (v v0 : Value) : ∀ (es : List (kk.T × Value)) (i p : Nat), es[p]? = some (k, v0) → entsF kk i (setVK kk v p es) = (entsF kk i es).modify p (fun e => { e with key := kk.val k, val := v })
  | x :: r, i, 0, h => by simp at h; subst h; rfl
  | x :: r, i, p + 1, h => by simp only [setVK, entsF, ents_setKey kk k v v0 r (i + 1) p (by simpa using h), List.modify_succ_cons]
theorem ents_sameKey (kk : KK) (k : kk.T) (v0 : Value) : ∀ (es : List (kk.T × Value)) (i p : Nat), es[p]? = some (k, v0) → (entsF kk i es).modify p (fun e => { e with key := kk.val k }) = entsF kk i es
  | x :: r, i, 0, h => by simp at h; subst h; rfl
  | x :: r, i, p + 1, h => by simp only [entsF, List.modify_succ_cons, ents_sameKey kk k v0 r (i + 1) p (by simpa using h)]
theorem ents_find (kk : KK) : ∀ (es : List (kk.T × Value)) (i p : Nat), p < es.length → (entsF kk i es).findIdx? (fun e => (e.born : Int) == ((i + p : Nat) : Int)) = some p
  | x :: r, i, 0, _ => by simp [entsF, List.findIdx?_cons]
  | x :: r, i, p + 1, h => by
    have h1 := ents_find kk r (i + 1) p (by simpa using h)
    have e : ((i + 1 + p : Nat) : Int) = ((i + (p + 1) : Nat) : Int) := by omega
    rw [e] at h1
    have hne : ((i : Int) == ((i + (p + 1) : Nat) : Int)) = false := by
      rw [beq_eq_false_iff_ne]; omega
    simp only [entsF, List.findIdx?_cons, hne, h1]
    rfl

/-! ### What the model does -/
section
variable {kk : KK} {T kt et : TypeId} {w : World} {b : Nat} {es : List (kk.T × Value)}
theorem run_setObj_here (o : Obj) (hb : w.heap[b]? = some (.map (entsF kk 0 es).toArray es.length)) : (setObj b o).run P w = .ok () (setBlock w b o) := MapKept.run_setObj_map o hb
theorem run_keyStays (k : kk.T) (w : World) : (Instr.keyThatStays (kk.val k) (kk.val k)).run P w = .ok (kk.val k) w := by
  simp [Instr.keyThatStays, sameBits_self]
theorem run_mapUpd (ht : P.underlying T = some (.map kt et)) (hk : KeyLaw P kk kt) (hb : w.heap[b]? = some (.map (entsF kk 0 es).toArray es.length)) (k : kk.T) (v : Value) :
    (Instr.mapUpdate T (.map (some b)) (kk.val k) v).run P w = .ok () (setBlock w b (.map (entsF kk 0 (putK kk k v es)).toArray (putK kk k v es).length)) := by
  obtain ⟨h1, h2⟩ := hk k w
  have h2' := h2 es
  cases hl : lookK kk k es 0 with
  | none =>
    rw [hl] at h2'
    rw [put_none kk k v es 0 hl, ents_append]
    simp only [Instr.mapUpdate, Sem.run_bind, run_underlying ht, Result.andThen_ok, MapKept.run_getObj_map hb, h1, h2', run_setObj_here _ hb]
    simp
  | some y =>
    obtain ⟨q, v0⟩ := y
    obtain ⟨p, hq, hp⟩ := look_some kk k es 0 q v0 hl
    rw [Nat.zero_add] at hq; subst hq
    rw [hl] at h2'
    rw [put_some kk k v es 0 q v0 (by rw [Nat.zero_add]; exact hl), ents_setKey kk k v v0 es 0 q hp, setVK_length]
    have hg : (((entsF kk 0 es).toArray[q]?).map (·.key)).getD (kk.val k) = kk.val k := by
      rw [List.getElem?_toArray, entsF_get kk es 0 q _ hp]; rfl
    simp only [Instr.mapUpdate, Sem.run_bind, run_underlying ht, Result.andThen_ok, MapKept.run_getObj_map hb, h1, h2', hg, run_keyStays, run_setObj_here _ hb]
    simp
theorem run_mapEnt_some (ht : P.underlying T = some (.map kt et)) (hk : KeyLaw P kk kt) (hb : w.heap[b]? = some (.map (entsF kk 0 es).toArray es.length)) {k : kk.T} {p : Nat} {v : Value} (hl : lookK kk k es 0 = some (p, v)) :
    (Instr.mapEntry T (.map (some b)) (kk.val k)).run P w = .ok (.tuple #[v, .int .i64 p]) (setBlock w b (.map (entsF kk 0 es).toArray es.length)) := by
  obtain ⟨h1, h2⟩ := hk k w
  have h2' := h2 es
  obtain ⟨q, hq, hp⟩ := look_some kk k es 0 p v hl
  rw [Nat.zero_add] at hq; subst hq
  rw [hl] at h2'
  have hg : (((entsF kk 0 es).toArray[p]?).map (·.key)).getD (kk.val k) = kk.val k := by
    rw [List.getElem?_toArray, entsF_get kk es 0 p _ hp]; rfl
  have hgb : (((entsF kk 0 es).toArray[p]?).map (·.born)).getD 0 = p := by
    rw [List.getElem?_toArray, entsF_get kk es 0 p _ hp]; simp
  simp only [Instr.mapEntry, Sem.run_bind, run_underlying ht, Result.andThen_ok, MapKept.run_getObj_map hb, h1, h2', hg, hgb, run_keyStays, run_setObj_here _ hb]
  have := ents_sameKey kk k v es 0 p hp
  have hq := entsF_get kk es 0 p _ hp
  simp [this, goInt, hq]
theorem run_mapEnt_none (ht : P.underlying T = some (.map kt et)) (hk : KeyLaw P kk kt) (hb : w.heap[b]? = some (.map (entsF kk 0 es).toArray es.length)) {k : kk.T} {z : Value} {i : TypeInfo} (hi : P.info? et = some i) (hz : i.zero = some z) (hl : lookK kk k es 0 = none) :
    (Instr.mapEntry T (.map (some b)) (kk.val k)).run P w = .ok (.tuple #[z, .int .i64 es.length]) (setBlock w b (.map (entsF kk 0 (es ++ [(k, z)])).toArray (es ++ [(k, z)]).length)) := by
  obtain ⟨h1, h2⟩ := hk k w
  have h2' := h2 es
  rw [hl] at h2'
  have hzv : (zeroValue et).run P w = .ok z w := by simp [zeroValue, typeInfo, hi, hz]
  rw [ents_append]
  simp only [Instr.mapEntry, Sem.run_bind, run_underlying ht, Result.andThen_ok, MapKept.run_getObj_map hb, h1, h2', hzv, run_setObj_here _ hb]
  simp [goInt]
theorem run_entSt (hb : w.heap[b]? = some (.map (entsF kk 0 es).toArray es.length)) {p : Nat} (hp : p < es.length) (v : Value) :
    (Instr.entryStore T (.map (some b)) (.int .i64 p) v).run P w = .ok () (setBlock w b (.map (entsF kk 0 (setVK kk v p es)).toArray (setVK kk v p es).length)) := by
  have hf := ents_find kk es 0 p hp
  rw [Nat.zero_add] at hf
  have hf' : (entsF kk 0 es).toArray.findIdx? (fun e => (e.born : Int) == (p : Int)) = some p := by rw [List.findIdx?_toArray]; exact hf
  rw [ents_set, setVK_length]
  simp only [Instr.entryStore, Sem.run_bind, Result.andThen_ok, MapKept.run_getObj_map hb, asInt, asIntOf, Sem.run_pure, hf', run_setObj_here _ hb]
  simp [hf, run_setObj_here _ hb]
theorem run_look (ht : P.underlying T = some (.map kt et)) (hk : KeyLaw P kk kt) (hb : w.heap[b]? = some (.map (entsF kk 0 es).toArray es.length)) {z : Value} {i : TypeInfo} (hi : P.info? et = some i) (hz : i.zero = some z) (k : kk.T) (ok : Bool) :
    (Instr.lookup T (.map (some b)) (kk.val k) ok).run P w = .ok (if ok then .tuple #[((lookK kk k es 0).map (·.2)).getD z, .bool (lookK kk k es 0).isSome] else ((lookK kk k es 0).map (·.2)).getD z) w := by
  obtain ⟨h1, h2⟩ := hk k w
  have h2' := h2 es
  have hzv : (zeroValue et).run P w = .ok z w := by simp [zeroValue, typeInfo, hi, hz]
  cases hl : lookK kk k es 0 with
  | none =>
    rw [hl] at h2'
    simp only [Instr.lookup, Sem.run_bind, run_underlying ht, Result.andThen_ok, MapKept.run_getObj_map hb, h1, h2', hzv, Sem.run_pure]
    rfl
  | some y =>
    rw [hl] at h2'
    simp only [Instr.lookup, Sem.run_bind, run_underlying ht, Result.andThen_ok, MapKept.run_getObj_map hb, h1, h2', hzv, Sem.run_pure]
    rfl
end

/-! ### The abstract operations -/
def lkRes (ok : Bool) (o : Option Value) (z : Value) : AVal := bif ok then .tup [.ofVal (o.getD z), .v (.bool o.isSome)] else .ofVal (o.getD z)
def getK (kk : KK) (k : kk.T) (es : List (kk.T × Value)) : Option Value := (lookK kk k es 0).map (·.2)
def vMakeMap (E : Env) (T : TypeId) (st : St) (k : AVal → List ABox → List ABox → Prop) : Prop :=
  match E.mp T with
  | some (kk, _) => k (.mp st.next) st.base (st.loc ++ [.map kk []])
  | none => False
def vLookup (E : Env) (T : TypeId) (st : St) (x i : AVal) (ok : Bool) (k : AVal → Prop) : Prop :=
  match E.mp T, x with
  | some (kk, z), .mp id =>
    match st.get id with
    | .map kk' es => kk = kk' ∧ (match kk'.of i with | some key => k (lkRes ok (getK kk' key es) z) | none => False)
    | _ => False
  | _, _ => False
def vMapUpd (E : Env) (T : TypeId) (st : St) (x i y : AVal) (k : List ABox → List ABox → Prop) : Prop :=
  match E.mp T, x, y with
  | some (kk, _), .mp id, .v v =>
    match st.get id with
    | .map kk' es => kk = kk' ∧ (match kk'.of i with | some key => st.setBox id (.map kk' (putK kk' key v es)) k | none => False)
    | _ => False
  | _, _, _ => False
def vMapEnt (E : Env) (T : TypeId) (st : St) (x i : AVal) (k : AVal → List ABox → List ABox → Prop) : Prop :=
  match E.mp T, x with
  | some (kk, z), .mp id =>
    match st.get id with
    | .map kk' es => kk = kk' ∧ (match kk'.of i with
      | some key => (match lookK kk' key es 0 with
        | some (p, v) => k (.tup [.ofVal v, .v (.int .i64 p)]) st.base st.loc
        | none => st.setBox id (.map kk' (es ++ [(key, z)])) (k (.tup [.ofVal z, .v (.int .i64 es.length)])))
      | none => False)
    | _ => False
  | _, _ => False
def vEntSt (st : St) (x i y : AVal) (k : List ABox → List ABox → Prop) : Prop :=
  match x, i, y with
  | .mp id, .v (.int .i64 p), .v v =>
    match st.get id with
    | .map kk' es => (0 ≤ p ∧ p < es.length) ∧ st.setBox id (.map kk' (setVK kk' v p.toNat es)) k
    | _ => False
  | _, _, _ => False
def vRange (E : Env) (T : TypeId) (st : St) (x : AVal) (k : AVal → List ABox → List ABox → Prop) : Prop :=
  match E.mp T, x with
  | some _, .mp id =>
    match st.get id with
    | .map _ es => k (.it st.next) st.base (st.loc ++ [.iter id es.length []])
    | _ => False
  | _, _ => False
def vNext (st : St) (x : AVal) (k : AVal → List ABox → List ABox → Prop) : Prop :=
  match x with
  | .it id =>
    match st.get id with
    | .iter m since seen =>
      match st.get m with
      | .map kk es => since = es.length ∧
          (∀ j e, es[j]? = some e → ¬ j ∈ seen → st.setBox id (.iter m since (seen ++ [j])) (k (.tup [.v (.bool true), kk.av e.1, .ofVal e.2]))) ∧
          ((∀ j, j < es.length → j ∈ seen) → k (.tup [.v (.bool false)]) st.base st.loc)
      | _ => False
    | _ => False
  | _ => False
def vEntry (st : St) (x : AVal) (k : AVal → Prop) : Prop :=
  match x with
  | .it id =>
    match st.get id with
    | .iter m since seen =>
      match st.get m, seen.getLast? with
      | .map kk es, some j => since = es.length ∧ (match es[j]? with | some e => k (.tup [kk.av e.1, .ofVal e.2]) | none => False)
      | _, _ => False
    | _ => False
  | _ => False

theorem setBlock_rel {c : Ctx} {H : List ABox} {w : World} (h : RelH c H w) {k : Nat} {l : Loc} {X Y : ABox} (hk : H[k]? = some X) (hX : X.live = true) (hl : c.loc k = some l)
    (hs : c.sealed l.blk = none) (o : Obj) (hY : RelB c (setBlock w l.blk o) l Y) : RelH c (H.set k Y) (setBlock w l.blk o) :=
  h.writeW hk hX hl hs rfl rfl rfl (fun b hb => by
    show (w.heap.setIfInBounds l.blk o)[b]? = w.heap[b]?
    simp [Array.getElem?_setIfInBounds, Ne.symm hb]) hY
theorem setBlock_here {w : World} {b : Nat} {o o' : Obj} (h : w.heap[b]? = some o) : (setBlock w b o').heap[b]? = some o' := (MapKept.heap_set h).1
theorem unsealed_new {c : Ctx} {H : List ABox} {w : World} (h : RelH c H w) : c.sealed w.heap.size = none := by
  cases hs : c.sealed w.heap.size with
  | none => rfl
  | some o => exact absurd (Array.getElem?_eq_some_iff.1 (h.sealed _ _ hs)).1 (by omega)

section
variable {n : Nat} {c : Ctx} {st : St} {a : Act} {w : World}
theorem vMakeMap_ok {T : TypeId} {k : AVal → List ABox → List ABox → Prop} (hk : vMakeMap E T st k) (hst : RelSt n c st a w) :
    ∃ z w' c' r b l, (Instr.makeMap T none).run P w = .ok z w' ∧ Ext c c' ∧ RelV c' r z ∧ RelH c' (b ++ l) w' ∧ b.length = n ∧ k r b l := by
  unfold vMakeMap at hk
  split at hk
  · rename_i kk zz hT
    have he := Ctx.bind_ext (l := ⟨w.heap.size, 0, 0⟩) (hst.heap.dom _ (Nat.le_refl _))
    refine ⟨_, _, _, _, st.base, _, (rfl : (Instr.makeMap T none).run P w = .ok (.map (some w.heap.size)) (w.alloc (.map #[] 0))), he, .mp (l := ⟨w.heap.size, 0, 0⟩) ?_, ?_, hst.hn, hk⟩
    · have := Ctx.bind_same c (st.base ++ st.loc).length ⟨w.heap.size, 0, 0⟩
      simpa [St.next] using this
    · rw [← List.append_assoc]
      exact hst.heap.allocO _ 0 _ ⟨World.heap_alloc_new w _, (show c.sealed w.heap.size = none from unsealed_new hst.heap)⟩
  · exact hk.elim
theorem vLookup_ok (hE : EnvOk P E) {T : TypeId} {X I : AVal} {ok : Bool} {k : AVal → Prop} (hk : vLookup E T st X I ok k) (hst : RelSt n c st a w) {u v : Value} (hx : RelV c X u) (hi : RelV c I v) :
    ∃ z r, (Instr.lookup T u v ok).run P w = .ok z w ∧ RelV c r z ∧ k r := by
  unfold vLookup at hk
  split at hk
  · rename_i kk z id hT
    obtain ⟨kt, et, ii, t1, t2, t3, t4⟩ := hE.mp _ _ _ hT
    split at hk
    · rename_i kk' es hb
      obtain ⟨rfl, hk⟩ := hk
      split at hk
      · rename_i key hkey
        have e1 := KK.of_ok hkey hi; subst e1
        cases hx with
        | @mp _ l hl =>
          obtain ⟨l', hl', h1, h2⟩ := hst.heap.box id _ (St.get_some hb rfl) rfl
          rw [hl] at hl'; cases hl'
          refine ⟨_, _, run_look t1 t2 h1 t3 t4 key ok, ?_, hk⟩
          unfold lkRes getK
          cases ok with
          | false => exact .ofVal c _
          | true => exact RelV.tup (vs := [_, _]) rfl (fun i hi => by
              have hi' : i < 2 := hi
              match i, hi' with
              | 0, _ => exact .ofVal c _
              | 1, _ => simp only [Option.isSome_map]; exact .v _)
      · exact hk.elim
    · exact hk.elim
  · exact hk.elim
theorem vMapUpd_ok (hE : EnvOk P E) {T : TypeId} {X I Y : AVal} {k : List ABox → List ABox → Prop} (hk : vMapUpd E T st X I Y k) (hst : RelSt n c st a w) {u v y : Value} (hx : RelV c X u) (hi : RelV c I v) (hy : RelV c Y y) :
    ∃ w' b l, (Instr.mapUpdate T u v y).run P w = .ok () w' ∧ RelH c (b ++ l) w' ∧ b.length = n ∧ k b l := by
  unfold vMapUpd at hk
  split at hk
  · rename_i kk z id vv hT
    obtain ⟨kt, et, ii, t1, t2, t3, t4⟩ := hE.mp _ _ _ hT
    have e2 := hy.v_inv; subst e2
    split at hk
    · rename_i kk' es hb
      obtain ⟨rfl, hk⟩ := hk
      split at hk
      · rename_i key hkey
        have e1 := KK.of_ok hkey hi; subst e1
        cases hx with
        | @mp _ l hl =>
          obtain ⟨l', hl', h1, h2⟩ := hst.heap.box id _ (St.get_some hb rfl) rfl
          rw [hl] at hl'; cases hl'
          obtain ⟨b, l2, hbl, hn, hK⟩ := St.setBox_ok hk hst.hn
          refine ⟨_, b, l2, run_mapUpd t1 t2 h1 key _, ?_, hn, hK⟩
          rw [hbl]
          exact setBlock_rel hst.heap (St.get_some hb rfl) rfl hl h2 _ ⟨setBlock_here h1, h2⟩
      · exact hk.elim
    · exact hk.elim
  · exact hk.elim
theorem tup2_ok {p q : AVal} {x y : Value} (h1 : RelV c p x) (h2 : RelV c q y) : RelV c (.tup [p, q]) (.tuple #[x, y]) :=
  RelV.tup (vs := [x, y]) rfl (fun i hi => by
    have hi' : i < 2 := hi
    match i, hi' with
    | 0, _ => exact h1
    | 1, _ => exact h2)
theorem vMapEnt_ok (hE : EnvOk P E) {T : TypeId} {X I : AVal} {k : AVal → List ABox → List ABox → Prop} (hk : vMapEnt E T st X I k) (hst : RelSt n c st a w) {u v : Value} (hx : RelV c X u) (hi : RelV c I v) :
    ∃ z w' c' r b l, (Instr.mapEntry T u v).run P w = .ok z w' ∧ Ext c c' ∧ RelV c' r z ∧ RelH c' (b ++ l) w' ∧ b.length = n ∧ k r b l := by
  unfold vMapEnt at hk
  split at hk
  · rename_i kk z id hT
    obtain ⟨kt, et, ii, t1, t2, t3, t4⟩ := hE.mp _ _ _ hT
    split at hk
    · rename_i kk' es hb
      obtain ⟨rfl, hk⟩ := hk
      split at hk
      · rename_i key hkey
        have e1 := KK.of_ok hkey hi; subst e1
        cases hx with
        | @mp _ l hl =>
          obtain ⟨l', hl', h1, h2⟩ := hst.heap.box id _ (St.get_some hb rfl) rfl
          rw [hl] at hl'; cases hl'
          split at hk
          · rename_i p v hlk
            refine ⟨_, _, c, _, st.base, st.loc, run_mapEnt_some t1 t2 h1 hlk, .refl c, tup2_ok (.ofVal c _) (.v _), ?_, hst.hn, hk⟩
            have hg := St.get_some hb rfl
            have := setBlock_rel hst.heap hg rfl hl h2 (.map (entsF kk 0 es).toArray es.length) (Y := .map kk es) ⟨setBlock_here h1, h2⟩
            obtain ⟨g1, g2⟩ := List.getElem?_eq_some_iff.1 hg
            rwa [← g2, List.set_getElem_self] at this
          · rename_i hlk
            obtain ⟨b, l2, hbl, hn, hK⟩ := St.setBox_ok hk hst.hn
            refine ⟨_, _, c, _, b, l2, run_mapEnt_none t1 t2 h1 t3 t4 hlk, .refl c, tup2_ok (.ofVal c _) (.v _), ?_, hn, hK⟩
            rw [hbl]
            exact setBlock_rel hst.heap (St.get_some hb rfl) rfl hl h2 _ ⟨setBlock_here h1, h2⟩
      · exact hk.elim
    · exact hk.elim
  · exact hk.elim
theorem vEntSt_ok {T : TypeId} {X I Y : AVal} {k : List ABox → List ABox → Prop} (hk : vEntSt st X I Y k) (hst : RelSt n c st a w) {u v y : Value} (hx : RelV c X u) (hi : RelV c I v) (hy : RelV c Y y) :
    ∃ w' b l, (Instr.entryStore T u v y).run P w = .ok () w' ∧ RelH c (b ++ l) w' ∧ b.length = n ∧ k b l := by
  unfold vEntSt at hk
  split at hk
  · rename_i id p vv
    have e2 := hy.v_inv; subst e2
    have e1 := hi.v_inv; subst e1
    split at hk
    · rename_i kk' es hb
      obtain ⟨⟨p0, p1⟩, hk⟩ := hk
      cases hx with
      | @mp _ l hl =>
        obtain ⟨l', hl', h1, h2⟩ := hst.heap.box id _ (St.get_some hb rfl) rfl
        rw [hl] at hl'; cases hl'
        obtain ⟨b, l2, hbl, hn, hK⟩ := St.setBox_ok hk hst.hn
        have hr := run_entSt (P := P) (T := T) h1 (p := p.toNat) (by omega) y
        rw [Int.toNat_of_nonneg p0] at hr
        refine ⟨_, b, l2, hr, ?_, hn, hK⟩
        rw [hbl]
        exact setBlock_rel hst.heap (St.get_some hb rfl) rfl hl h2 _ ⟨setBlock_here h1, h2⟩
    · exact hk.elim
  · exact hk.elim
theorem vRange_ok (hE : EnvOk P E) {T : TypeId} {X : AVal} {k : AVal → List ABox → List ABox → Prop} (hk : vRange E T st X k) (hst : RelSt n c st a w) {u : Value} (hx : RelV c X u) :
    ∃ z w' c' r b l, (Instr.range T u).run P w = .ok z w' ∧ Ext c c' ∧ RelV c' r z ∧ RelH c' (b ++ l) w' ∧ b.length = n ∧ k r b l := by
  unfold vRange at hk
  split at hk
  · rename_i kz id hT
    obtain ⟨kt, et, ii, t1, t2, t3, t4⟩ := hE.mp _ kz.1 kz.2 hT
    split at hk
    · rename_i kk' es hb
      cases hx with
      | @mp _ l hl =>
        obtain ⟨l', hl', h1, h2⟩ := hst.heap.box id _ (St.get_some hb rfl) rfl
        rw [hl] at hl'; cases hl'
        have he := Ctx.bind_ext (l := ⟨w.heap.size, 0, 0⟩) (hst.heap.dom _ (Nat.le_refl _))
        refine ⟨_, _, _, _, st.base, _, run_range_map w T kt et l.blk _ _ t1 h1, he, .it (l := ⟨w.heap.size, 0, 0⟩) ?_, ?_, hst.hn, hk⟩
        · have := Ctx.bind_same c (st.base ++ st.loc).length ⟨w.heap.size, 0, 0⟩
          simpa [St.next] using this
        · rw [← List.append_assoc]
          exact hst.heap.allocO _ 0 _ ⟨⟨l, he.loc _ _ hl, World.heap_alloc_new w _⟩, (show c.sealed w.heap.size = none from unsealed_new hst.heap)⟩
    · exact hk.elim
  · exact hk.elim
theorem mem_left {kk : KK} {es : List (kk.T × Value)} {seen : List Nat} {e : MapEntry} (h : e ∈ (leftOf (entsF kk 0 es).toArray seen.toArray).toList) :
    ∃ j x, es[j]? = some x ∧ e = ⟨kk.val x.1, x.2, j⟩ ∧ ¬ j ∈ seen := by
  unfold leftOf at h
  simp at h
  obtain ⟨j, x, h1, rfl⟩ := entsF_mem kk es 0 e h.1
  exact ⟨j, x, h1, by rw [Nat.zero_add], by simpa using h.2⟩
theorem none_left {kk : KK} {es : List (kk.T × Value)} {seen : List Nat} (h : (leftOf (entsF kk 0 es).toArray seen.toArray).size = 0) (j : Nat) (hj : j < es.length) : j ∈ seen := by
  have h0 := Array.eq_empty_of_size_eq_zero h
  unfold leftOf at h0
  rw [Array.filter_eq_empty_iff] at h0
  have hg := entsF_get kk es 0 j es[j] (List.getElem?_eq_getElem hj)
  rw [Nat.zero_add] at hg
  have := h0 ⟨kk.val es[j].1, es[j].2, j⟩ (by simpa using List.mem_of_getElem? hg)
  simpa using this
theorem vNext_ok {X : AVal} {k : AVal → List ABox → List ABox → Prop} (hk : vNext st X k) (hst : RelSt n c st a w) {u : Value} (hx : RelV c X u) (ty : TypeId) :
    ∃ z w' c' r b l, (Instr.next u false ty).run P w = .ok z w' ∧ Ext c c' ∧ RelV c' r z ∧ RelH c' (b ++ l) w' ∧ b.length = n ∧ k r b l := by
  unfold vNext at hk
  split at hk
  · rename_i id
    split at hk
    · rename_i m since seen hbi
      split at hk
      · rename_i kk es hbm
        obtain ⟨rfl, hk1, hk2⟩ := hk
        cases hx with
        | @it _ l hl =>
          obtain ⟨l', hl', ⟨lm, hlm, h1⟩, h2⟩ := hst.heap.box id _ (St.get_some hbi rfl) rfl
          rw [hl] at hl'; cases hl'
          obtain ⟨lm', hlm', g1, g2⟩ := hst.heap.box m _ (St.get_some hbm rfl) rfl
          rw [hlm] at hlm'; cases hlm'
          have hold : ∀ x ∈ (entsF kk 0 es).toArray.toList, x.born < es.length := fun x hx => by
            obtain ⟨j, y, hy, rfl⟩ := entsF_mem kk es 0 x (by simpa using hx)
            have := (List.getElem?_eq_some_iff.1 hy).1
            simp only [Nat.zero_add]; exact this
          rcases run_next_at (P := P) w ty l.blk lm.blk es.length es.length seen.toArray (entsF kk 0 es).toArray es.length h1 g1 hold (Nat.le_refl _) with ⟨q1, q2⟩ | ⟨e, he, w1, hw1, hrun⟩
          · refine ⟨_, w, c, _, st.base, st.loc, q2, .refl c, ?_, hst.heap, hst.hn, hk2 (none_left q1)⟩
            exact RelV.tup (vs := [.bool false]) rfl (fun i hi => by
              have : i = 0 := by simpa using hi
              subst this; exact .v _)
          · obtain ⟨j, x, hj, rfl, hns⟩ := mem_left he
            have hh1 : RelH c (st.base ++ st.loc) w1 := by
              rcases hw1 with rfl | rfl
              · exact hst.heap
              · exact hst.heap.drew
            have h1' : w1.heap[l.blk]? = some (.mapIter (some lm.blk) es.length seen.toArray es.length) := by
              rcases hw1 with rfl | rfl <;> exact h1
            obtain ⟨b, l2, hbl, hn, hK⟩ := St.setBox_ok (hk1 j x hj hns) hst.hn
            refine ⟨_, _, c, _, b, l2, hrun, .refl c, ?_, ?_, hn, hK⟩
            · exact RelV.tup (vs := [.bool true, kk.val x.1, x.2]) rfl (fun i hi => by
                have hi' : i < 3 := hi
                match i, hi' with
                | 0, _ => exact .v _
                | 1, _ => exact KK.av_ok
                | 2, _ => exact .ofVal c _)
            · rw [hbl]
              refine setBlock_rel hh1 (St.get_some hbi rfl) rfl hl h2 _ ⟨⟨lm, hlm, ?_⟩, h2⟩
              rw [setBlock_here h1']
              simp
      · exact hk.elim
    · exact hk.elim
  · exact hk.elim
theorem vEntry_ok {X : AVal} {k : AVal → Prop} (hk : vEntry st X k) (hst : RelSt n c st a w) {u : Value} (hx : RelV c X u) :
    ∃ z r, (Instr.entry u).run P w = .ok z w ∧ RelV c r z ∧ k r := by
  unfold vEntry at hk
  split at hk
  · rename_i id
    split at hk
    · rename_i m since seen hbi
      split at hk
      · rename_i kk es j hbm hlast
        obtain ⟨rfl, hk⟩ := hk
        split at hk
        · rename_i e hj
          cases hx with
          | @it _ l hl =>
            obtain ⟨l', hl', ⟨lm, hlm, h1⟩, h2⟩ := hst.heap.box id _ (St.get_some hbi rfl) rfl
            rw [hl] at hl'; cases hl'
            obtain ⟨lm', hlm', g1, g2⟩ := hst.heap.box m _ (St.get_some hbm rfl) rfl
            rw [hlm] at hlm'; cases hlm'
            obtain ⟨ini, rfl⟩ := List.getLast?_eq_some_iff.1 hlast
            have hg := entsF_get kk es 0 j e hj
            rw [Nat.zero_add] at hg
            have hborn : ∀ (l : List (kk.T × Value)) (i : Nat), (entsF kk i l).map (·.born) = List.range' i l.length := by
              intro l
              induction l with
              | nil => intro i; rfl
              | cons x r ih => intro i; simp [entsF, ih, List.range'_succ]
            have := run_entry_at (P := P) w l.blk lm.blk es.length ini.toArray (entsF kk 0 es).toArray es.length ⟨kk.val e.1, e.2, j⟩ (by simpa using h1) g1 (by simpa using List.mem_of_getElem? hg) (by
              simp only [hborn]; exact List.nodup_range')
            exact ⟨_, _, this, tup2_ok KK.av_ok (.ofVal c _), hk⟩
        · exact hk.elim
      · exact hk.elim
    · exact hk.elim
  · exact hk.elim
end

/-! ### Keys -/
theorem keyLaw_int {kt : TypeId} {k : IntKind} (h : P.underlying kt = some (.int k)) : KeyLaw P (.int k) kt := by
  intro n w
  refine ⟨fun e => MapKept.run_checkKey h (by simp [MapKept.IsKey, KK.val]) e 9999, fun es => MapKept.run_findKey h ?_⟩
  have : ∀ (es : List (Int × Value)) (i j : Nat), Instr.findNow (.int k) (.int k n) (entsF (.int k) i es) j = some (lookK (.int k) n es j) := by
    intro es
    induction es with
    | nil => intro i j; rfl
    | cons x r ih =>
      intro i j
      have hs : Instr.sameNow (.int k) (.int k n) (.int k x.1) = some (n == x.1) := by simp [Instr.sameNow]
      simp only [entsF, KK.val, Instr.findNow, hs, lookK]
      by_cases e : n = x.1
      · simp [e]
      · have : (n == x.1) = false := by simpa using e
        simp [this, e, ih]
  exact this es 0 0
theorem keyLaw_pt {kt : TypeId} {d : TypeDesc} (h : P.underlying kt = some d) (hd : match d with | .struct _ => True | .array _ _ => True | _ => False)
    (hc : ∀ (a b : Int) w e, (Instr.checkKey e 10000 kt (.agg #[.int .i64 a, .int .i64 b])).run P w = .ok () w)
    (he : ∀ (a b c d : Int) w, (Op.equal kt (.agg #[.int .i64 a, .int .i64 b]) (.agg #[.int .i64 c, .int .i64 d])).run P w = .ok (decide (a = c ∧ b = d)) w) : KeyLaw P .pt kt := by
  intro p w
  refine ⟨fun e => hc p.1 p.2 w e, fun es => ?_⟩
  have ask : ∀ (es : List ((Int × Int) × Value)) (i j : Nat), (Instr.findAsking kt (KK.val .pt p) (entsF .pt i es) j).run P w = .ok (lookK .pt p es j) w := by
    intro es
    induction es with
    | nil => intro i j; rfl
    | cons x r ih =>
      intro i j
      have h1 := he p.1 p.2 x.1.1 x.1.2 w
      simp only [entsF, KK.val, Instr.findAsking, Sem.run_bind, h1, Result.andThen_ok, lookK]
      by_cases e : p = x.1
      · subst e; simp
      · have : ¬ (p.1 = x.1.1 ∧ p.2 = x.1.2) := fun hh => e (Prod.ext hh.1 hh.2)
        simp [this, e]; exact ih (i + 1) (j + 1)
  cases es with
  | nil =>
    simp only [Instr.findKey, Sem.run_bind, run_underlying h, Result.andThen_ok, entsF, Instr.findNow, Sem.run_pure]
    rfl
  | cons x r =>
    have hn : Instr.findNow d (KK.val .pt p) (entsF .pt 0 (x :: r)) 0 = none := by
      cases d <;> first | exact hd.elim | simp [entsF, KK.val, Instr.findNow, Instr.sameNow]
    simp only [Instr.findKey, Sem.run_bind, run_underlying h, Result.andThen_ok, hn]
    exact ask (x :: r) 0 0

end Go.Eng

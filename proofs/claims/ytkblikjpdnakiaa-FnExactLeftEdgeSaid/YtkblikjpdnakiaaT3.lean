/- Texts of this seat that the law stands on, put together. No conditions. -/
import Derived.MapKept
import Derived.Maps.RangeRun
import Derived.Test.YtkblikjpdnakiaaT2
section
set_option linter.unusedSimpArgs false
set_option linter.unusedVariables false
namespace Go.Eng
open Go.ChangeMaps (setBlock)
variable {P : Program} {E : Env}
def KK.of : (kk : KK) → AVal → Option kk.T
  | .int k, .v (.int k' n) => if k = k' then some n else none
  | .pt, .agg [.v (.int .i64 a), .v (.int .i64 b)] => some (a, b)
  | .str, .v (.string s) => some s
  | .st, .agg [.v (.int .i64 a), .v (.int .i64 b), .v (.int .i64 d)] => some ((a, b), d)
  | _, _ => none
theorem KK.of_ok {kk : KK} {a : AVal} {k : kk.T} (h : kk.of a = some k) {c : Ctx} {u : Value} (hr : RelV c a u) : u = kk.val k := by
  unfold KK.of at h
  split at h
  · split at h
    · rename_i hk; subst hk; cases h; exact hr.v_inv
    · cases h
  · cases h; exact hr.agg2_inv
  · cases h; exact hr.v_inv
  · cases h; exact hr.agg3_inv
  · cases h
def KK.av : (kk : KK) → kk.T → AVal
  | .int k, n => .v (.int k n)
  | .pt, p => .agg [.v (.int .i64 p.1), .v (.int .i64 p.2)]
  | .str, s => .v (.string s)
  | .st, p => .agg [.v (.int .i64 p.1.1), .v (.int .i64 p.1.2), .v (.int .i64 p.2)]
theorem KK.av_ok {kk : KK} {k : kk.T} {c : Ctx} : RelV c (kk.av k) (kk.val k) := by
  cases kk with
  | int => exact .v _
  | pt => exact RelV.agg (vs := [.int .i64 k.1, .int .i64 k.2]) rfl (fun i hi => by
      have hi' : i < 2 := hi
      match i, hi' with
      | 0, _ => exact .v _
      | 1, _ => exact .v _)
  | str => exact .v _
  | st => exact RelV.agg (vs := [.int .i64 k.1.1, .int .i64 k.1.2, .int .i64 k.2]) rfl (fun i hi => by
      have hi' : i < 3 := hi
      match i, hi' with
      | 0, _ => exact .v _
      | 1, _ => exact .v _
      | 2, _ => exact .v _)
theorem sameBits_self (kk : KK) (k : kk.T) : Instr.sameBits 10000 (kk.val k) (kk.val k) = true := by
  cases kk with
  | int => simp [KK.val, Instr.sameBits]
  | pt => simp [KK.val, Instr.sameBits]
  | st => simp [KK.val, Instr.sameBits]
  | str => exact (MapKept.bytes_beq k k).2 rfl
theorem entsF_length (kk : KK) : ∀ (es : List (kk.T × Value)) (i : Nat), (entsF kk i es).length = es.length
  | [], _ => rfl
  | x :: r, i => by simp [entsF, entsF_length kk r]
theorem entsF_get (kk : KK) : ∀ (es : List (kk.T × Value)) (i j : Nat) (x : kk.T × Value), es[j]? = some x → (entsF kk i es)[j]? = some ⟨kk.val x.1, x.2, i + j⟩
  | y :: r, i, 0, x, h => by simp at h; subst h; rfl
  | y :: r, i, j + 1, x, h => by
    have := entsF_get kk r (i + 1) j x (by simpa using h)
    simp only [entsF, List.getElem?_cons_succ, this]
    congr 2; omega
theorem entsF_mem (kk : KK) : ∀ (es : List (kk.T × Value)) (i : Nat) (e : MapEntry), e ∈ entsF kk i es → ∃ j x, es[j]? = some x ∧ e = ⟨kk.val x.1, x.2, i + j⟩
  | y :: r, i, e, h => by
    rcases List.mem_cons.1 h with rfl | h
    · exact ⟨0, y, rfl, rfl⟩
    · obtain ⟨j, x, h1, rfl⟩ := entsF_mem kk r (i + 1) e h
      exact ⟨j + 1, x, by simpa using h1, by congr 1; omega⟩
def putK (kk : KK) (k : kk.T) (v : Value) : List (kk.T × Value) → List (kk.T × Value)
  | [] => [(k, v)]
  | x :: r => if k = x.1 then (x.1, v) :: r else x :: putK kk k v r
/-- The element at a place, written. -/
def setVK (kk : KK) (v : Value) : Nat → List (kk.T × Value) → List (kk.T × Value)
  | _, [] => []
  | 0, x :: r => (x.1, v) :: r
  | j + 1, x :: r => x :: setVK kk v j r
theorem setVK_length (kk : KK) (v : Value) : ∀ (j : Nat) (es : List (kk.T × Value)), (setVK kk v j es).length = es.length
  | _, [] => by cases ‹Nat› <;> rfl
  | 0, x :: r => rfl
  | j + 1, x :: r => by simp [setVK, setVK_length kk v j r]
theorem look_some (kk : KK) (k : kk.T) : ∀ (es : List (kk.T × Value)) (j q : Nat) (v : Value), lookK kk k es j = some (q, v) → ∃ p, q = j + p ∧ es[p]? = some (k, v)
  | x :: r, j, q, v, h => by
    unfold lookK at h
    split at h
    · rename_i he
      cases h
      exact ⟨0, rfl, by rw [he]; rfl⟩
    · obtain ⟨p, h1, h2⟩ := look_some kk k r (j + 1) q v h
      exact ⟨p + 1, by omega, by simpa using h2⟩
theorem put_none (kk : KK) (k : kk.T) (v : Value) : ∀ (es : List (kk.T × Value)) (j : Nat), lookK kk k es j = none → putK kk k v es = es ++ [(k, v)]
  | [], _, _ => rfl
  | x :: r, j, h => by
    unfold lookK at h
    split at h
    · cases h
    · rename_i hne
      simp [putK, hne, put_none kk k v r (j + 1) h]
theorem put_some (kk : KK) (k : kk.T) (v : Value) : ∀ (es : List (kk.T × Value)) (j p : Nat) (v0 : Value), lookK kk k es j = some (j + p, v0) → putK kk k v es = setVK kk v p es
  | x :: r, j, p, v0, h => by
    unfold lookK at h
    split at h
    · rename_i he
      have : p = 0 := by
        have := congrArg (Option.map Prod.fst) h
        simp at this; omega
      subst this
      simp [putK, he, setVK]
    · rename_i hne
      obtain ⟨q, h1, h2⟩ := look_some kk k r (j + 1) (j + p) v0 h
      have hp : p = q + 1 := by omega
      subst hp
      simp [putK, hne, setVK, put_some kk k v r (j + 1) q v0 (by rw [h, show j + 1 + q = j + (q + 1) by omega])]
theorem ents_append (kk : KK) (x : kk.T × Value) : ∀ (es : List (kk.T × Value)) (i : Nat), entsF kk i (es ++ [x]) = entsF kk i es ++ [⟨kk.val x.1, x.2, i + es.length⟩]
  | [], i => rfl
  | y :: r, i => by
    simp only [List.cons_append, entsF, ents_append kk x r (i + 1), List.length_cons]
    rw [show i + 1 + r.length = i + (r.length + 1) by omega]
theorem ents_set (kk : KK) (v : Value) : ∀ (es : List (kk.T × Value)) (i p : Nat), entsF kk i (setVK kk v p es) = (entsF kk i es).modify p (fun e => { e with val := v })
  | [], i, p => by cases p <;> rfl
  | x :: r, i, 0 => rfl
  | x :: r, i, p + 1 => by simp only [setVK, entsF, ents_set kk v r (i + 1) p, List.modify_succ_cons]
theorem ents_setKey (kk : KK) (k : kk.T) (v v0 : Value) : ∀ (es : List (kk.T × Value)) (i p : Nat), es[p]? = some (k, v0) → entsF kk i (setVK kk v p es) = (entsF kk i es).modify p (fun e => { e with key := kk.val k, val := v })
  | x :: r, i, 0, h => by simp at h; subst h; rfl
  | x :: r, i, p + 1, h => by simp only [setVK, entsF, ents_setKey kk k v v0 r (i + 1) p (by simpa using h), List.modify_succ_cons]
theorem ents_sameKey (kk : KK) (k : kk.T) (v0 : Value) : ∀ (es : List (kk.T × Value)) (i p : Nat), es[p]? = some (k, v0) → (entsF kk i es).modify p (fun e => { e with key := kk.val k }) = entsF kk i es
  | x :: r, i, 0, h => by simp at h; subst h; rfl
  | x :: r, i, p + 1, h => by simp only [entsF, List.modify_succ_cons, ents_sameKey kk k v0 r (i + 1) p (by simpa using h)]
theorem ents_find (kk : KK) : ∀ (es : List (kk.T × Value)) (i p : Nat), p < es.length → (entsF kk i es).findIdx? (fun e => (e.born : Int) == ((i + p : Nat) : Int)) = some p
  | x :: r, i, 0, _ => by simp [entsF, List.findIdx?_cons]
  | x :: r, i, p + 1, h => by
    have h1 := ents_find kk r (i + 1) p (by simpa using h)
    have e : ((i + 1 + p : Nat) : Int) = ((i + (p + 1) : Nat) : Int) := by omega
    rw [e] at h1
    have hne : ((i : Int) == ((i + (p + 1) : Nat) : Int)) = false := by
      rw [beq_eq_false_iff_ne]; omega
    simp only [entsF, List.findIdx?_cons, hne, h1]
    rfl
/-! ### What the model does -/
section
variable {kk : KK} {T kt et : TypeId} {w : World} {b : Nat} {es : List (kk.T × Value)}
theorem run_setObj_here (o : Obj) (hb : w.heap[b]? = some (.map (entsF kk 0 es).toArray es.length)) : (setObj b o).run P w = .ok () (setBlock w b o) := MapKept.run_setObj_map o hb
theorem run_keyStays (k : kk.T) (w : World) : (Instr.keyThatStays (kk.val k) (kk.val k)).run P w = .ok (kk.val k) w := by
  simp [Instr.keyThatStays, sameBits_self]
theorem run_mapUpd (ht : P.underlying T = some (.map kt et)) (hk : KeyLaw P kk kt) (hb : w.heap[b]? = some (.map (entsF kk 0 es).toArray es.length)) (k : kk.T) (v : Value) :
    (Instr.mapUpdate T (.map (some b)) (kk.val k) v).run P w = .ok () (setBlock w b (.map (entsF kk 0 (putK kk k v es)).toArray (putK kk k v es).length)) := by
  obtain ⟨h1, h2⟩ := hk k w
  have h2' := h2 es
  cases hl : lookK kk k es 0 with
  | none =>
    rw [hl] at h2'
    rw [put_none kk k v es 0 hl, ents_append]
    simp only [Instr.mapUpdate, Sem.run_bind, run_underlying ht, Result.andThen_ok, MapKept.run_getObj_map hb, h1, h2', run_setObj_here _ hb]
    simp
  | some y =>
    obtain ⟨q, v0⟩ := y
    obtain ⟨p, hq, hp⟩ := look_some kk k es 0 q v0 hl
    rw [Nat.zero_add] at hq; subst hq
    rw [hl] at h2'
    rw [put_some kk k v es 0 q v0 (by rw [Nat.zero_add]; exact hl), ents_setKey kk k v v0 es 0 q hp, setVK_length]
    have hg : (((entsF kk 0 es).toArray[q]?).map (·.key)).getD (kk.val k) = kk.val k := by
      rw [List.getElem?_toArray, entsF_get kk es 0 q _ hp]; rfl
    simp only [Instr.mapUpdate, Sem.run_bind, run_underlying ht, Result.andThen_ok, MapKept.run_getObj_map hb, h1, h2', hg, run_keyStays, run_setObj_here _ hb]
    simp
theorem run_mapEnt_some (ht : P.underlying T = some (.map kt et)) (hk : KeyLaw P kk kt) (hb : w.heap[b]? = some (.map (entsF kk 0 es).toArray es.length)) {k : kk.T} {p : Nat} {v : Value} (hl : lookK kk k es 0 = some (p, v)) :
    (Instr.mapEntry T (.map (some b)) (kk.val k)).run P w = .ok (.tuple #[v, .int .i64 p]) (setBlock w b (.map (entsF kk 0 es).toArray es.length)) := by
  obtain ⟨h1, h2⟩ := hk k w
  have h2' := h2 es
  obtain ⟨q, hq, hp⟩ := look_some kk k es 0 p v hl
  rw [Nat.zero_add] at hq; subst hq
  rw [hl] at h2'
  have hg : (((entsF kk 0 es).toArray[p]?).map (·.key)).getD (kk.val k) = kk.val k := by
    rw [List.getElem?_toArray, entsF_get kk es 0 p _ hp]; rfl
  have hgb : (((entsF kk 0 es).toArray[p]?).map (·.born)).getD 0 = p := by
    rw [List.getElem?_toArray, entsF_get kk es 0 p _ hp]; simp
  simp only [Instr.mapEntry, Sem.run_bind, run_underlying ht, Result.andThen_ok, MapKept.run_getObj_map hb, h1, h2', hg, hgb, run_keyStays, run_setObj_here _ hb]
  have := ents_sameKey kk k v es 0 p hp
  have hq := entsF_get kk es 0 p _ hp
  simp [this, goInt, hq]
theorem run_mapEnt_none (ht : P.underlying T = some (.map kt et)) (hk : KeyLaw P kk kt) (hb : w.heap[b]? = some (.map (entsF kk 0 es).toArray es.length)) {k : kk.T} {z : Value} {i : TypeInfo} (hi : P.info? et = some i) (hz : i.zero = some z) (hl : lookK kk k es 0 = none) :
    (Instr.mapEntry T (.map (some b)) (kk.val k)).run P w = .ok (.tuple #[z, .int .i64 es.length]) (setBlock w b (.map (entsF kk 0 (es ++ [(k, z)])).toArray (es ++ [(k, z)]).length)) := by
  obtain ⟨h1, h2⟩ := hk k w
  have h2' := h2 es
  rw [hl] at h2'
  have hzv : (zeroValue et).run P w = .ok z w := by simp [zeroValue, typeInfo, hi, hz]
  rw [ents_append]
  simp only [Instr.mapEntry, Sem.run_bind, run_underlying ht, Result.andThen_ok, MapKept.run_getObj_map hb, h1, h2', hzv, run_setObj_here _ hb]
  simp [goInt]
theorem run_entSt (hb : w.heap[b]? = some (.map (entsF kk 0 es).toArray es.length)) {p : Nat} (hp : p < es.length) (v : Value) :
    (Instr.entryStore T (.map (some b)) (.int .i64 p) v).run P w = .ok () (setBlock w b (.map (entsF kk 0 (setVK kk v p es)).toArray (setVK kk v p es).length)) := by
  have hf := ents_find kk es 0 p hp
  rw [Nat.zero_add] at hf
  have hf' : (entsF kk 0 es).toArray.findIdx? (fun e => (e.born : Int) == (p : Int)) = some p := by rw [List.findIdx?_toArray]; exact hf
  rw [ents_set, setVK_length]
  simp only [Instr.entryStore, Sem.run_bind, Result.andThen_ok, MapKept.run_getObj_map hb, asInt, asIntOf, Sem.run_pure, hf', run_setObj_here _ hb]
  simp [hf, run_setObj_here _ hb]
theorem run_look (ht : P.underlying T = some (.map kt et)) (hk : KeyLaw P kk kt) (hb : w.heap[b]? = some (.map (entsF kk 0 es).toArray es.length)) {z : Value} {i : TypeInfo} (hi : P.info? et = some i) (hz : i.zero = some z) (k : kk.T) (ok : Bool) :
    (Instr.lookup T (.map (some b)) (kk.val k) ok).run P w = .ok (if ok then .tuple #[((lookK kk k es 0).map (·.2)).getD z, .bool (lookK kk k es 0).isSome] else ((lookK kk k es 0).map (·.2)).getD z) w := by
  obtain ⟨h1, h2⟩ := hk k w
  have h2' := h2 es
  have hzv : (zeroValue et).run P w = .ok z w := by simp [zeroValue, typeInfo, hi, hz]
  cases hl : lookK kk k es 0 with
  | none =>
    rw [hl] at h2'
    simp only [Instr.lookup, Sem.run_bind, run_underlying ht, Result.andThen_ok, MapKept.run_getObj_map hb, h1, h2', hzv, Sem.run_pure]
    rfl
  | some y =>
    rw [hl] at h2'
    simp only [Instr.lookup, Sem.run_bind, run_underlying ht, Result.andThen_ok, MapKept.run_getObj_map hb, h1, h2', hzv, Sem.run_pure]
    rfl
end
/-! ### The abstract operations -/
def lkRes (ok : Bool) (o : Option Value) (z : Value) : AVal := bif ok then .tup [.ofVal (o.getD z), .v (.bool o.isSome)] else .ofVal (o.getD z)
def getK (kk : KK) (k : kk.T) (es : List (kk.T × Value)) : Option Value := (lookK kk k es 0).map (·.2)
def vMakeMap (E : Env) (T : TypeId) (st : St) (k : AVal → List ABox → List ABox → Prop) : Prop :=
  match E.mp T with
  | some (kk, _) => k (.mp st.next) st.base (st.loc ++ [.map kk []])
  | none => False
def vLookup (E : Env) (T : TypeId) (st : St) (x i : AVal) (ok : Bool) (k : AVal → Prop) : Prop :=
  match E.mp T, x with
  | some (kk, z), .mp id =>
    match st.get id with
    | .map kk' es => kk = kk' ∧ (match kk'.of i with | some key => k (lkRes ok (getK kk' key es) z) | none => False)
    | _ => False
  | _, _ => False
def vMapUpd (E : Env) (T : TypeId) (st : St) (x i y : AVal) (k : List ABox → List ABox → Prop) : Prop :=
  match E.mp T, x, y with
  | some (kk, _), .mp id, .v v =>
    match st.get id with
    | .map kk' es => kk = kk' ∧ (match kk'.of i with | some key => st.setBox id (.map kk' (putK kk' key v es)) k | none => False)
    | _ => False
  | _, _, _ => False
def vMapEnt (E : Env) (T : TypeId) (st : St) (x i : AVal) (k : AVal → List ABox → List ABox → Prop) : Prop :=
  match E.mp T, x with
  | some (kk, z), .mp id =>
    match st.get id with
    | .map kk' es => kk = kk' ∧ (match kk'.of i with
      | some key => (match lookK kk' key es 0 with
        | some (p, v) => k (.tup [.ofVal v, .v (.int .i64 p)]) st.base st.loc
        | none => st.setBox id (.map kk' (es ++ [(key, z)])) (k (.tup [.ofVal z, .v (.int .i64 es.length)])))
      | none => False)
    | _ => False
  | _, _ => False
def vEntSt (st : St) (x i y : AVal) (k : List ABox → List ABox → Prop) : Prop :=
  match x, i, y with
  | .mp id, .v (.int .i64 p), .v v =>
    match st.get id with
    | .map kk' es => (0 ≤ p ∧ p < es.length) ∧ st.setBox id (.map kk' (setVK kk' v p.toNat es)) k
    | _ => False
  | _, _, _ => False
def vRange (E : Env) (T : TypeId) (st : St) (x : AVal) (k : AVal → List ABox → List ABox → Prop) : Prop :=
  match E.mp T, x with
  | some _, .mp id =>
    match st.get id with
    | .map _ es => k (.it st.next) st.base (st.loc ++ [.iter id es.length []])
    | _ => False
  | _, _ => False
def vNext (st : St) (x : AVal) (k : AVal → List ABox → List ABox → Prop) : Prop :=
  match x with
  | .it id =>
    match st.get id with
    | .iter m since seen =>
      match st.get m with
      | .map kk es => since = es.length ∧
          (∀ j e, es[j]? = some e → ¬ j ∈ seen → st.setBox id (.iter m since (seen ++ [j])) (k (.tup [.v (.bool true), kk.av e.1, .ofVal e.2]))) ∧
          ((∀ j, j < es.length → j ∈ seen) → k (.tup [.v (.bool false)]) st.base st.loc)
      | _ => False
    | _ => False
  | _ => False
def vEntry (st : St) (x : AVal) (k : AVal → Prop) : Prop :=
  match x with
  | .it id =>
    match st.get id with
    | .iter m since seen =>
      match st.get m, seen.getLast? with
      | .map kk es, some j => since = es.length ∧ (match es[j]? with | some e => k (.tup [kk.av e.1, .ofVal e.2]) | none => False)
      | _, _ => False
    | _ => False
  | _ => False
theorem setBlock_rel {c : Ctx} {H : List ABox} {w : World} (h : RelH c H w) {k : Nat} {l : Loc} {X Y : ABox} (hk : H[k]? = some X) (hX : X.live = true) (hl : c.loc k = some l)
    (hs : c.sealed l.blk = none) (o : Obj) (hY : RelB c (setBlock w l.blk o) l Y) : RelH c (H.set k Y) (setBlock w l.blk o) :=
  h.writeW hk hX hl hs rfl rfl rfl (fun b hb => by
    show (w.heap.setIfInBounds l.blk o)[b]? = w.heap[b]?
    simp [Array.getElem?_setIfInBounds, Ne.symm hb]) hY
theorem setBlock_here {w : World} {b : Nat} {o o' : Obj} (h : w.heap[b]? = some o) : (setBlock w b o').heap[b]? = some o' := (MapKept.heap_set h).1
theorem unsealed_new {c : Ctx} {H : List ABox} {w : World} (h : RelH c H w) : c.sealed w.heap.size = none := by
  cases hs : c.sealed w.heap.size with
  | none => rfl
  | some o => exact absurd (Array.getElem?_eq_some_iff.1 (h.sealed _ _ hs)).1 (by omega)
section
variable {n : Nat} {c : Ctx} {st : St} {a : Act} {w : World}
theorem vMakeMap_ok {T : TypeId} {k : AVal → List ABox → List ABox → Prop} (hk : vMakeMap E T st k) (hst : RelSt n c st a w) :
    ∃ z w' c' r b l, (Instr.makeMap T none).run P w = .ok z w' ∧ Ext c c' ∧ RelV c' r z ∧ RelH c' (b ++ l) w' ∧ b.length = n ∧ k r b l := by
  unfold vMakeMap at hk
  split at hk
  · rename_i kk zz hT
    have he := Ctx.bind_ext (l := ⟨w.heap.size, 0, 0⟩) (hst.heap.dom _ (Nat.le_refl _))
    refine ⟨_, _, _, _, st.base, _, (rfl : (Instr.makeMap T none).run P w = .ok (.map (some w.heap.size)) (w.alloc (.map #[] 0))), he, .mp (l := ⟨w.heap.size, 0, 0⟩) ?_, ?_, hst.hn, hk⟩
    · have := Ctx.bind_same c (st.base ++ st.loc).length ⟨w.heap.size, 0, 0⟩
      simpa [St.next] using this
    · rw [← List.append_assoc]
      exact hst.heap.allocO _ 0 _ ⟨World.heap_alloc_new w _, (show c.sealed w.heap.size = none from unsealed_new hst.heap)⟩
  · exact hk.elim
theorem vLookup_ok (hE : EnvOk P E) {T : TypeId} {X I : AVal} {ok : Bool} {k : AVal → Prop} (hk : vLookup E T st X I ok k) (hst : RelSt n c st a w) {u v : Value} (hx : RelV c X u) (hi : RelV c I v) :
    ∃ z r, (Instr.lookup T u v ok).run P w = .ok z w ∧ RelV c r z ∧ k r := by
  unfold vLookup at hk
  split at hk
  · rename_i kk z id hT
    obtain ⟨kt, et, ii, t1, t2, t3, t4⟩ := hE.mp _ _ _ hT
    split at hk
    · rename_i kk' es hb
      obtain ⟨rfl, hk⟩ := hk
      split at hk
      · rename_i key hkey
        have e1 := KK.of_ok hkey hi; subst e1
        cases hx with
        | @mp _ l hl =>
          obtain ⟨l', hl', h1, h2⟩ := hst.heap.box id _ (St.get_some hb rfl) rfl
          rw [hl] at hl'; cases hl'
          refine ⟨_, _, run_look t1 t2 h1 t3 t4 key ok, ?_, hk⟩
          unfold lkRes getK
          cases ok with
          | false => exact .ofVal c _
          | true => exact RelV.tup (vs := [_, _]) rfl (fun i hi => by
              have hi' : i < 2 := hi
              match i, hi' with
              | 0, _ => exact .ofVal c _
              | 1, _ => simp only [Option.isSome_map]; exact .v _)
      · exact hk.elim
    · exact hk.elim
  · exact hk.elim
theorem vMapUpd_ok (hE : EnvOk P E) {T : TypeId} {X I Y : AVal} {k : List ABox → List ABox → Prop} (hk : vMapUpd E T st X I Y k) (hst : RelSt n c st a w) {u v y : Value} (hx : RelV c X u) (hi : RelV c I v) (hy : RelV c Y y) :
    ∃ w' b l, (Instr.mapUpdate T u v y).run P w = .ok () w' ∧ RelH c (b ++ l) w' ∧ b.length = n ∧ k b l := by
  unfold vMapUpd at hk
  split at hk
  · rename_i kk z id vv hT
    obtain ⟨kt, et, ii, t1, t2, t3, t4⟩ := hE.mp _ _ _ hT
    have e2 := hy.v_inv; subst e2
    split at hk
    · rename_i kk' es hb
      obtain ⟨rfl, hk⟩ := hk
      split at hk
      · rename_i key hkey
        have e1 := KK.of_ok hkey hi; subst e1
        cases hx with
        | @mp _ l hl =>
          obtain ⟨l', hl', h1, h2⟩ := hst.heap.box id _ (St.get_some hb rfl) rfl
          rw [hl] at hl'; cases hl'
          obtain ⟨b, l2, hbl, hn, hK⟩ := St.setBox_ok hk hst.hn
          refine ⟨_, b, l2, run_mapUpd t1 t2 h1 key _, ?_, hn, hK⟩
          rw [hbl]
          exact setBlock_rel hst.heap (St.get_some hb rfl) rfl hl h2 _ ⟨setBlock_here h1, h2⟩
      · exact hk.elim
    · exact hk.elim
  · exact hk.elim
theorem tup2_ok {p q : AVal} {x y : Value} (h1 : RelV c p x) (h2 : RelV c q y) : RelV c (.tup [p, q]) (.tuple #[x, y]) :=
  RelV.tup (vs := [x, y]) rfl (fun i hi => by
    have hi' : i < 2 := hi
    match i, hi' with
    | 0, _ => exact h1
    | 1, _ => exact h2)
theorem vMapEnt_ok (hE : EnvOk P E) {T : TypeId} {X I : AVal} {k : AVal → List ABox → List ABox → Prop} (hk : vMapEnt E T st X I k) (hst : RelSt n c st a w) {u v : Value} (hx : RelV c X u) (hi : RelV c I v) :
    ∃ z w' c' r b l, (Instr.mapEntry T u v).run P w = .ok z w' ∧ Ext c c' ∧ RelV c' r z ∧ RelH c' (b ++ l) w' ∧ b.length = n ∧ k r b l := by
  unfold vMapEnt at hk
  split at hk
  · rename_i kk z id hT
    obtain ⟨kt, et, ii, t1, t2, t3, t4⟩ := hE.mp _ _ _ hT
    split at hk
    · rename_i kk' es hb
      obtain ⟨rfl, hk⟩ := hk
      split at hk
      · rename_i key hkey
        have e1 := KK.of_ok hkey hi; subst e1
        cases hx with
        | @mp _ l hl =>
          obtain ⟨l', hl', h1, h2⟩ := hst.heap.box id _ (St.get_some hb rfl) rfl
          rw [hl] at hl'; cases hl'
          split at hk
          · rename_i p v hlk
            refine ⟨_, _, c, _, st.base, st.loc, run_mapEnt_some t1 t2 h1 hlk, .refl c, tup2_ok (.ofVal c _) (.v _), ?_, hst.hn, hk⟩
            have hg := St.get_some hb rfl
            have := setBlock_rel hst.heap hg rfl hl h2 (.map (entsF kk 0 es).toArray es.length) (Y := .map kk es) ⟨setBlock_here h1, h2⟩
            obtain ⟨g1, g2⟩ := List.getElem?_eq_some_iff.1 hg
            rwa [← g2, List.set_getElem_self] at this
          · rename_i hlk
            obtain ⟨b, l2, hbl, hn, hK⟩ := St.setBox_ok hk hst.hn
            refine ⟨_, _, c, _, b, l2, run_mapEnt_none t1 t2 h1 t3 t4 hlk, .refl c, tup2_ok (.ofVal c _) (.v _), ?_, hn, hK⟩
            rw [hbl]
            exact setBlock_rel hst.heap (St.get_some hb rfl) rfl hl h2 _ ⟨setBlock_here h1, h2⟩
      · exact hk.elim
    · exact hk.elim
  · exact hk.elim
theorem vEntSt_ok {T : TypeId} {X I Y : AVal} {k : List ABox → List ABox → Prop} (hk : vEntSt st X I Y k) (hst : RelSt n c st a w) {u v y : Value} (hx : RelV c X u) (hi : RelV c I v) (hy : RelV c Y y) :
    ∃ w' b l, (Instr.entryStore T u v y).run P w = .ok () w' ∧ RelH c (b ++ l) w' ∧ b.length = n ∧ k b l := by
  unfold vEntSt at hk
  split at hk
  · rename_i id p vv
    have e2 := hy.v_inv; subst e2
    have e1 := hi.v_inv; subst e1
    split at hk
    · rename_i kk' es hb
      obtain ⟨⟨p0, p1⟩, hk⟩ := hk
      cases hx with
      | @mp _ l hl =>
        obtain ⟨l', hl', h1, h2⟩ := hst.heap.box id _ (St.get_some hb rfl) rfl
        rw [hl] at hl'; cases hl'
        obtain ⟨b, l2, hbl, hn, hK⟩ := St.setBox_ok hk hst.hn
        have hr := run_entSt (P := P) (T := T) h1 (p := p.toNat) (by omega) y
        rw [Int.toNat_of_nonneg p0] at hr
        refine ⟨_, b, l2, hr, ?_, hn, hK⟩
        rw [hbl]
        exact setBlock_rel hst.heap (St.get_some hb rfl) rfl hl h2 _ ⟨setBlock_here h1, h2⟩
    · exact hk.elim
  · exact hk.elim
theorem vRange_ok (hE : EnvOk P E) {T : TypeId} {X : AVal} {k : AVal → List ABox → List ABox → Prop} (hk : vRange E T st X k) (hst : RelSt n c st a w) {u : Value} (hx : RelV c X u) :
    ∃ z w' c' r b l, (Instr.range T u).run P w = .ok z w' ∧ Ext c c' ∧ RelV c' r z ∧ RelH c' (b ++ l) w' ∧ b.length = n ∧ k r b l := by
  unfold vRange at hk
  split at hk
  · rename_i kz id hT
    obtain ⟨kt, et, ii, t1, t2, t3, t4⟩ := hE.mp _ kz.1 kz.2 hT
    split at hk
    · rename_i kk' es hb
      cases hx with
      | @mp _ l hl =>
        obtain ⟨l', hl', h1, h2⟩ := hst.heap.box id _ (St.get_some hb rfl) rfl
        rw [hl] at hl'; cases hl'
        have he := Ctx.bind_ext (l := ⟨w.heap.size, 0, 0⟩) (hst.heap.dom _ (Nat.le_refl _))
        refine ⟨_, _, _, _, st.base, _, run_range_map w T kt et l.blk _ _ t1 h1, he, .it (l := ⟨w.heap.size, 0, 0⟩) ?_, ?_, hst.hn, hk⟩
        · have := Ctx.bind_same c (st.base ++ st.loc).length ⟨w.heap.size, 0, 0⟩
          simpa [St.next] using this
        · rw [← List.append_assoc]
          exact hst.heap.allocO _ 0 _ ⟨⟨l, he.loc _ _ hl, World.heap_alloc_new w _⟩, (show c.sealed w.heap.size = none from unsealed_new hst.heap)⟩
    · exact hk.elim
  · exact hk.elim
theorem mem_left {kk : KK} {es : List (kk.T × Value)} {seen : List Nat} {e : MapEntry} (h : e ∈ (leftOf (entsF kk 0 es).toArray seen.toArray).toList) :
    ∃ j x, es[j]? = some x ∧ e = ⟨kk.val x.1, x.2, j⟩ ∧ ¬ j ∈ seen := by
  unfold leftOf at h
  simp at h
  obtain ⟨j, x, h1, rfl⟩ := entsF_mem kk es 0 e h.1
  exact ⟨j, x, h1, by rw [Nat.zero_add], by simpa using h.2⟩
theorem none_left {kk : KK} {es : List (kk.T × Value)} {seen : List Nat} (h : (leftOf (entsF kk 0 es).toArray seen.toArray).size = 0) (j : Nat) (hj : j < es.length) : j ∈ seen := by
  have h0 := Array.eq_empty_of_size_eq_zero h
  unfold leftOf at h0
  rw [Array.filter_eq_empty_iff] at h0
  have hg := entsF_get kk es 0 j es[j] (List.getElem?_eq_getElem hj)
  rw [Nat.zero_add] at hg
  have := h0 ⟨kk.val es[j].1, es[j].2, j⟩ (by simpa using List.mem_of_getElem? hg)
  simpa using this
theorem vNext_ok {X : AVal} {k : AVal → List ABox → List ABox → Prop} (hk : vNext st X k) (hst : RelSt n c st a w) {u : Value} (hx : RelV c X u) (ty : TypeId) :
    ∃ z w' c' r b l, (Instr.next u false ty).run P w = .ok z w' ∧ Ext c c' ∧ RelV c' r z ∧ RelH c' (b ++ l) w' ∧ b.length = n ∧ k r b l := by
  unfold vNext at hk
  split at hk
  · rename_i id
    split at hk
    · rename_i m since seen hbi
      split at hk
      · rename_i kk es hbm
        obtain ⟨rfl, hk1, hk2⟩ := hk
        cases hx with
        | @it _ l hl =>
          obtain ⟨l', hl', ⟨lm, hlm, h1⟩, h2⟩ := hst.heap.box id _ (St.get_some hbi rfl) rfl
          rw [hl] at hl'; cases hl'
          obtain ⟨lm', hlm', g1, g2⟩ := hst.heap.box m _ (St.get_some hbm rfl) rfl
          rw [hlm] at hlm'; cases hlm'
          have hold : ∀ x ∈ (entsF kk 0 es).toArray.toList, x.born < es.length := fun x hx => by
            obtain ⟨j, y, hy, rfl⟩ := entsF_mem kk es 0 x (by simpa using hx)
            have := (List.getElem?_eq_some_iff.1 hy).1
            simp only [Nat.zero_add]; exact this
          rcases run_next_at (P := P) w ty l.blk lm.blk es.length es.length seen.toArray (entsF kk 0 es).toArray es.length h1 g1 hold (Nat.le_refl _) with ⟨q1, q2⟩ | ⟨e, he, w1, hw1, hrun⟩
          · refine ⟨_, w, c, _, st.base, st.loc, q2, .refl c, ?_, hst.heap, hst.hn, hk2 (none_left q1)⟩
            exact RelV.tup (vs := [.bool false]) rfl (fun i hi => by
              have : i = 0 := by simpa using hi
              subst this; exact .v _)
          · obtain ⟨j, x, hj, rfl, hns⟩ := mem_left he
            have hh1 : RelH c (st.base ++ st.loc) w1 := by
              rcases hw1 with rfl | rfl
              · exact hst.heap
              · exact hst.heap.drew
            have h1' : w1.heap[l.blk]? = some (.mapIter (some lm.blk) es.length seen.toArray es.length) := by
              rcases hw1 with rfl | rfl <;> exact h1
            obtain ⟨b, l2, hbl, hn, hK⟩ := St.setBox_ok (hk1 j x hj hns) hst.hn
            refine ⟨_, _, c, _, b, l2, hrun, .refl c, ?_, ?_, hn, hK⟩
            · exact RelV.tup (vs := [.bool true, kk.val x.1, x.2]) rfl (fun i hi => by
                have hi' : i < 3 := hi
                match i, hi' with
                | 0, _ => exact .v _
                | 1, _ => exact KK.av_ok
                | 2, _ => exact .ofVal c _)
            · rw [hbl]
              refine setBlock_rel hh1 (St.get_some hbi rfl) rfl hl h2 _ ⟨⟨lm, hlm, ?_⟩, h2⟩
              rw [setBlock_here h1']
              simp
      · exact hk.elim
    · exact hk.elim
  · exact hk.elim
theorem vEntry_ok {X : AVal} {k : AVal → Prop} (hk : vEntry st X k) (hst : RelSt n c st a w) {u : Value} (hx : RelV c X u) :
    ∃ z r, (Instr.entry u).run P w = .ok z w ∧ RelV c r z ∧ k r := by
  unfold vEntry at hk
  split at hk
  · rename_i id
    split at hk
    · rename_i m since seen hbi
      split at hk
      · rename_i kk es j hbm hlast
        obtain ⟨rfl, hk⟩ := hk
        split at hk
        · rename_i e hj
          cases hx with
          | @it _ l hl =>
            obtain ⟨l', hl', ⟨lm, hlm, h1⟩, h2⟩ := hst.heap.box id _ (St.get_some hbi rfl) rfl
            rw [hl] at hl'; cases hl'
            obtain ⟨lm', hlm', g1, g2⟩ := hst.heap.box m _ (St.get_some hbm rfl) rfl
            rw [hlm] at hlm'; cases hlm'
            obtain ⟨ini, rfl⟩ := List.getLast?_eq_some_iff.1 hlast
            have hg := entsF_get kk es 0 j e hj
            rw [Nat.zero_add] at hg
            have hborn : ∀ (l : List (kk.T × Value)) (i : Nat), (entsF kk i l).map (·.born) = List.range' i l.length := by
              intro l
              induction l with
              | nil => intro i; rfl
              | cons x r ih => intro i; simp [entsF, ih, List.range'_succ]
            have := run_entry_at (P := P) w l.blk lm.blk es.length ini.toArray (entsF kk 0 es).toArray es.length ⟨kk.val e.1, e.2, j⟩ (by simpa using h1) g1 (by simpa using List.mem_of_getElem? hg) (by
              simp only [hborn]; exact List.nodup_range')
            exact ⟨_, _, this, tup2_ok KK.av_ok (.ofVal c _), hk⟩
        · exact hk.elim
      · exact hk.elim
    · exact hk.elim
  · exact hk.elim
end
/-! ### Keys -/
theorem keyLaw_int {kt : TypeId} {k : IntKind} (h : P.underlying kt = some (.int k)) : KeyLaw P (.int k) kt := by
  intro n w
  refine ⟨fun e => MapKept.run_checkKey h (by simp [MapKept.IsKey, KK.val]) e 9999, fun es => MapKept.run_findKey h ?_⟩
  have : ∀ (es : List (Int × Value)) (i j : Nat), Instr.findNow (.int k) (.int k n) (entsF (.int k) i es) j = some (lookK (.int k) n es j) := by
    intro es
    induction es with
    | nil => intro i j; rfl
    | cons x r ih =>
      intro i j
      have hs : Instr.sameNow (.int k) (.int k n) (.int k x.1) = some (n == x.1) := by simp [Instr.sameNow]
      simp only [entsF, KK.val, Instr.findNow, hs, lookK]
      by_cases e : n = x.1
      · simp [e]
      · have : (n == x.1) = false := by simpa using e
        simp [this, e, ih]
  exact this es 0 0
theorem keyLaw_pt {kt : TypeId} {d : TypeDesc} (h : P.underlying kt = some d) (hd : match d with | .struct _ => True | .array _ _ => True | _ => False)
    (hc : ∀ (a b : Int) w e, (Instr.checkKey e 10000 kt (.agg #[.int .i64 a, .int .i64 b])).run P w = .ok () w)
    (he : ∀ (a b c d : Int) w, (Op.equal kt (.agg #[.int .i64 a, .int .i64 b]) (.agg #[.int .i64 c, .int .i64 d])).run P w = .ok (decide (a = c ∧ b = d)) w) : KeyLaw P .pt kt := by
  intro p w
  refine ⟨fun e => hc p.1 p.2 w e, fun es => ?_⟩
  have ask : ∀ (es : List ((Int × Int) × Value)) (i j : Nat), (Instr.findAsking kt (KK.val .pt p) (entsF .pt i es) j).run P w = .ok (lookK .pt p es j) w := by
    intro es
    induction es with
    | nil => intro i j; rfl
    | cons x r ih =>
      intro i j
      have h1 := he p.1 p.2 x.1.1 x.1.2 w
      simp only [entsF, KK.val, Instr.findAsking, Sem.run_bind, h1, Result.andThen_ok, lookK]
      by_cases e : p = x.1
      · subst e; simp
      · have : ¬ (p.1 = x.1.1 ∧ p.2 = x.1.2) := fun hh => e (Prod.ext hh.1 hh.2)
        simp [this, e]; exact ih (i + 1) (j + 1)
  cases es with
  | nil =>
    simp only [Instr.findKey, Sem.run_bind, run_underlying h, Result.andThen_ok, entsF, Instr.findNow, Sem.run_pure]
    rfl
  | cons x r =>
    have hn : Instr.findNow d (KK.val .pt p) (entsF .pt 0 (x :: r)) 0 = none := by
      cases d <;> first | exact hd.elim | simp [entsF, KK.val, Instr.findNow, Instr.sameNow]
    simp only [Instr.findKey, Sem.run_bind, run_underlying h, Result.andThen_ok, hn]
    exact ask (x :: r) 0 0
end Go.Eng
end
section
set_option linter.unusedSimpArgs false
set_option linter.unusedVariables false
namespace Go.Eng
variable {P : Program} {E : Env}
/-- A CONTRACT: called with such arguments over such boxes, the function returns such a result over such boxes. -/
def AC (P : Program) (f : FuncId) (args : List AVal) (H : List ABox) (R : AVal → List ABox → Prop) : Prop :=
  (∃ fn, P.funcs[f]? = some fn ∧ fn.body.isNone = false ∧ (fn.name == "runtime.NumGoroutine") = false) ∧
  ∀ c vs w, RelCs c args vs → RelH c H w → Calls P f vs.toArray w (fun e w' => ∃ c' r v H', Ext c c' ∧ e = .returned v ∧ RelV c' r v ∧ RelH c' H' w' ∧ R r H')
theorem AC.mono {f : FuncId} {args : List AVal} {H : List ABox} {R R' : AVal → List ABox → Prop} (h : AC P f args H R) (hr : ∀ r H', R r H' → R' r H') : AC P f args H R' :=
  ⟨h.1, fun c vs w hv hh => (h.2 c vs w hv hh).mono fun e w' ⟨c', r, v, H', h1, h2, h3, h4, h5⟩ => ⟨c', r, v, H', h1, h2, h3, h4, hr _ _ h5⟩⟩
def vCall (P : Program) (fv : AVal) (args : List AVal) (st : St) (k : AVal → List ABox → List ABox → Prop) : Prop :=
  match fv with
  | .fn f cap => AC P f (args ++ cap) (st.base ++ st.loc) (fun r H' => ∃ b l, H' = b ++ l ∧ b.length = st.base.length ∧ k r b l)
  | _ => False
def vcCall (P : Program) (E : Env) (c : Callee) (args : List Operand) (ts : List TypeId) (st : St) (k : AVal → List ABox → List ABox → Prop) : Prop :=
  match c, args, ts with
  | .value f, args, _ => vCall P (st.ev f) (args.map st.ev) st k
  | .builtin .len, [x], [T] => vLen E T (st.ev x) (fun r => k r st.base st.loc)
  | .builtin .append, [x, y], [T, T'] => T = T' ∧ vAppend E T st (st.ev x) (st.ev y) k
  | .builtin .copy, [x, y], [T, T'] => T = T' ∧ vCopy E T st (st.ev x) (st.ev y) k
  | .builtin .max, [x, y], _ => vMin true (st.ev x) (st.ev y) (fun r => k r st.base st.loc)
  | .builtin .min, [x, y], _ => vMin false (st.ev x) (st.ev y) (fun r => k r st.base st.loc)
  | _, _, _ => False
def vcOp (P : Program) (E : Env) (op : Op) (st : St) (k : AVal → List ABox → List ABox → Prop) : Prop :=
  match op with
  | .move x => k (st.ev x) st.base st.loc
  | .assign x => k (st.ev x) st.base st.loc
  | .pick c a b => vPick (st.ev c) (st.ev a) (st.ev b) (fun r => k r st.base st.loc)
  | .alloc T => vAlloc E T st k
  | .box _ x => vBox st (st.ev x) k
  | .build T ps => vBuild E T (partsA st ps.toList) (fun r => k r st.base st.loc)
  | .buildSlice T len ps => vBuildSl E T len st (partsA st ps.toList) k
  | .load T x => vLoad E T st (st.ev x) (fun r => k r st.base st.loc)
  | .store T x y => vStore E T st (st.ev x) (st.ev y) (fun b l => k (.v undef) b l)
  | .nilCheck x => vNil (st.ev x) (fun r => k r st.base st.loc)
  | .binOp op T x y _ => vBin E op T (isC x || isC y) (st.ev x) (st.ev y) (fun r => k r st.base st.loc)
  | .unOp op _ x => vUn op (st.ev x) (fun r => k r st.base st.loc)
  | .convert s d x => vConv E s d (st.ev x) (fun r => k r st.base st.loc)
  | .makeFunc (.func f) first cap => first.toList = [] ∧ k (.fn f (cap.toList.map st.ev)) st.base st.loc
  | .makeSlice T x y => vMake E T st (st.ev x) (st.ev y) k
  | .slice T x lo hi none => vSlice E T (st.ev x) (lo.map st.ev) (hi.map st.ev) (fun r => k r st.base st.loc)
  | .fieldAddr T x f => vFldA E T f (st.ev x) (fun r => k r st.base st.loc)
  | .indexAddr T x i => vIdxA E T (st.ev x) (st.ev i) (fun r => k r st.base st.loc)
  | .index T x i => vIdx E T (st.ev x) (st.ev i) (fun r => k r st.base st.loc)
  | .extract x i => vExt (st.ev x) i (fun r => k r st.base st.loc)
  | .makeMap T none => vMakeMap E T st k
  | .lookup T x i ok => vLookup E T st (st.ev x) (st.ev i) ok (fun r => k r st.base st.loc)
  | .mapUpdate T x i y => vMapUpd E T st (st.ev x) (st.ev i) (st.ev y) (fun b l => k (.v undef) b l)
  | .insert T x i y => vMapUpd E T st (st.ev x) (st.ev i) (st.ev y) (fun b l => k (.v undef) b l)
  | .mapEntry T x i => vMapEnt E T st (st.ev x) (st.ev i) k
  | .entryStore T x i y => vEntSt st (st.ev x) (st.ev i) (st.ev y) (fun b l => k (.v undef) b l)
  | .range T x => vRange E T st (st.ev x) k
  | .next x false => vNext st (st.ev x) k
  | .entry x => vEntry st (st.ev x) (fun r => k r st.base st.loc)
  | .call c => vcCall P E c.callee c.args.toList c.argTypes.toList st k
  | _ => False
theorem vNil_ok {X : AVal} {k : AVal → Prop} (hk : vNil X k) {c : Ctx} {u : Value} (hx : RelV c X u) {a : Act} {w : World} {o : Oper} {x : Operand} (ho : o.op = .nilCheck x) (hu : a.eval x = u) :
    (execOp a.eval o).run P w = .ok (.value u) w ∧ k X := by
  unfold vNil at hk
  split at hk
  · cases hx with
    | ptr h => exact ⟨by simp [execOp, ho, hu], hk⟩
  · cases hx with
    | rp g h hc hr => exact ⟨by simp [execOp, ho, hu], hk⟩
  · cases hx with
    | fn hl h => exact ⟨by simp [execOp, ho, hu], hk⟩
  · exact hk.elim
theorem RelSt.args {n : Nat} {c : Ctx} {st : St} {a : Act} {w : World} (hst : RelSt n c st a w) (l : List Operand) : RelCs c (l.map st.ev) (l.map a.eval) :=
  ⟨by simp, fun i hi => by
    have hi' : i < l.length := by simpa using hi
    simp only [List.getD, List.getElem?_map, List.getElem?_eq_getElem hi', Option.map_some, Option.getD_some]
    exact hst.ev _⟩
theorem RelCs.append {c : Ctx} {as bs : List AVal} {us vs : List Value} (h : RelCs c as us) (k : RelCs c bs vs) : RelCs c (as ++ bs) (us ++ vs) := by
  refine ⟨by simp [h.1, k.1], fun i hi => ?_⟩
  have hl := h.1
  by_cases hlt : i < as.length
  · have e1 : (as ++ bs).getD i .junk = as.getD i .junk := by simp only [List.getD]; rw [List.getElem?_append_left hlt]
    rw [e1, getD_app_left (by omega)]; exact h.2 i hlt
  · have e1 : (as ++ bs).getD i .junk = bs.getD (i - as.length) .junk := by simp only [List.getD]; rw [List.getElem?_append_right (by omega)]
    rw [e1, getD_app_right (by omega), hl]
    simp at hi
    exact k.2 _ (by omega)
theorem vCall_ok {n : Nat} {c : Ctx} {st : St} {a : Act} {w : World} (hst : RelSt n c st a w) {o : Oper} {cl : Call} {f : Operand} (ho : o.op = .call cl) (hf : cl.callee = .value f) {k : AVal → List ABox → List ABox → Prop}
    (hk : vCall P (st.ev f) (cl.args.toList.map st.ev) st k) {K : Act → World → Prop} {Q : Exit → Act → World → Prop}
    (hK : ∀ c' v w' r b l, Ext c c' → RelV c' r v → RelH c' (b ++ l) w' → b.length = n → k r b l → K (a.put o.dst v) w') : o.wp P a w K Q := by
  have hfv := hst.ev f
  unfold vCall at hk
  split at hk
  · rename_i g cap hg
    rw [hg] at hfv
    generalize hfe : a.eval f = fe at hfv
    cases hfv with
    | @fn _ _ vs hl hcap =>
      obtain ⟨⟨fn, h1, h2, h3⟩, hcall⟩ := hk
      have hargs := (hst.args cl.args.toList).append (⟨hl.symm, hcap⟩ : RelCs c cap vs)
      have hrun : (execOp a.eval o).run P w = .ok (.enter g (cl.args.map a.eval ++ vs.toArray)) w := by
        have h2' : ¬ fn.body.isNone = true := by rw [h2]; exact Bool.false_ne_true
        have h3' : ¬ (fn.name == "runtime.NumGoroutine") = true := by rw [h3]; exact Bool.false_ne_true
        simp only [execOp, ho, resolve, hf, hfe, Deferred.ofValue, invoke, callFunc, Sem.run_bind, Sem.run_pure, Result.andThen_ok, run_program, h1, if_neg h3', if_neg h2']
        simp
      unfold Oper.wp
      rw [hrun]
      have harr : (cl.args.map a.eval ++ vs.toArray) = (cl.args.toList.map a.eval ++ vs).toArray := by
        apply Array.ext'; simp
      show Calls P g (cl.args.map a.eval ++ vs.toArray) w _
      rw [harr]
      refine (hcall c _ w hargs hst.heap).mono ?_
      rintro e w' ⟨c', r, v, H', he, rfl, hr, hh, b, l, rfl, hb, hkk⟩
      exact hK c' v w' r b l he hr hh (hb.trans hst.hn) hkk
  · exact hk.elim
theorem vcOp_ok (hE : EnvOk P E) {n : Nat} {c : Ctx} {st : St} {a : Act} {w : World} (hst : RelSt n c st a w) {o : Oper} {k : AVal → List ABox → List ABox → Prop} (hk : vcOp P E o.op st k)
    {K : Act → World → Prop} {Q : Exit → Act → World → Prop} (hK : ∀ c' v w' r b l, Ext c c' → RelV c' r v → RelH c' (b ++ l) w' → b.length = n → k r b l → K (a.put o.dst v) w') : o.wp P a w K Q := by
  obtain ⟨dst, op, ty, pos, after, guard⟩ := o
  have value : ∀ {s : Sem Value} {k' : AVal → Prop}, (∃ z r, s.run P w = .ok z w ∧ RelV c r z ∧ k' r) → (∀ r, k' r → k r st.base st.loc) →
      (∀ z, s.run P w = .ok z w → (execOp a.eval ⟨dst, op, ty, pos, after, guard⟩).run P w = .ok (.value z) w) → Oper.wp P ⟨dst, op, ty, pos, after, guard⟩ a w K Q := by
    rintro s k' ⟨z, r, h1, h2, h3⟩ hk' hx
    exact wp_value (hx z h1) (hK c z w r st.base st.loc (.refl c) h2 hst.heap hst.hn (hk' r h3))
  have made : ∀ {s : Sem Value}, (∃ z w' c' r b l, s.run P w = .ok z w' ∧ Ext c c' ∧ RelV c' r z ∧ RelH c' (b ++ l) w' ∧ b.length = n ∧ k r b l) →
      (∀ z w', s.run P w = .ok z w' → (execOp a.eval ⟨dst, op, ty, pos, after, guard⟩).run P w = .ok (.value z) w') → Oper.wp P ⟨dst, op, ty, pos, after, guard⟩ a w K Q := by
    rintro s ⟨z, w', c', r, b, l, h1, h2, h3, h4, h5, h6⟩ hx
    exact wp_value (hx z w' h1) (hK c' z w' r b l h2 h3 h4 h5 h6)
  unfold vcOp at hk
  split at hk
  · exact wp_value (by rename_i heq; simp at heq; subst heq; simp [execOp]) (hK c _ w _ _ _ (.refl c) (hst.ev _) hst.heap hst.hn hk)
  · exact wp_value (by rename_i heq; simp at heq; subst heq; simp [execOp]) (hK c _ w _ _ _ (.refl c) (hst.ev _) hst.heap hst.hn hk)
  · rename_i cc aa bb heq
    simp at heq; subst heq
    have hc := hst.ev cc
    unfold vPick at hk
    split at hk
    · rename_i t ht
      rw [ht] at hc
      have hc' := hc.v_inv
      cases t with
      | true => exact wp_value (v := a.eval aa) (w' := w) (by simp [execOp, hc', asBool]) (hK c _ w _ _ _ (.refl c) (hst.ev _) hst.heap hst.hn (hk.1 rfl))
      | false => exact wp_value (v := a.eval bb) (w' := w) (by simp [execOp, hc', asBool]) (hK c _ w _ _ _ (.refl c) (hst.ev _) hst.heap hst.hn (hk.2 rfl))
    · exact hk.elim
  · rename_i heq; simp at heq; subst heq
    exact made (vAlloc_ok hE hk hst) (fun z w' h => by simp [execOp, h])
  · rename_i heq; simp at heq; subst heq
    rename_i T x
    exact made (vBox_ok (T := T) hk hst (hst.ev _)) (fun z w' h => by simp [execOp, h])
  · rename_i heq; simp at heq; subst heq
    exact value (vBuild_ok hE hk hst) (fun _ h => h) (fun z h => by simp only [execOp, Sem.run_bind, h]; rfl)
  · rename_i heq; simp at heq; subst heq
    exact made (vBuildSl_ok hE hk hst) (fun z w' h => by simp only [execOp, Sem.run_bind, h]; rfl)
  · rename_i heq; simp at heq; subst heq
    exact value (vLoad_ok hE hk hst (hst.ev _)) (fun _ h => h) (fun z h => by simp [execOp, h])
  · rename_i T x y heq; simp at heq; subst heq
    obtain ⟨w', b, l, h1, h2, h3, h4⟩ := vStore_ok hE hk hst (hst.ev _) (hst.ev _)
    unfold Oper.wp
    have hrun : (execOp a.eval ⟨dst, .store T x y, ty, pos, after, guard⟩).run P w = .ok .skip w' := by simp only [execOp, Sem.run_bind, h1]; rfl
    rw [hrun]
    exact hK c undef w' _ b l (.refl c) (.v _) h2 h3 h4
  · rename_i x heq; simp at heq; subst heq
    obtain ⟨h1, h2⟩ := vNil_ok (P := P) hk (hst.ev _) (a := a) (w := w) (o := ⟨dst, .nilCheck x, ty, pos, after, guard⟩) rfl rfl
    exact wp_value h1 (hK c _ w _ _ _ (.refl c) (hst.ev _) hst.heap hst.hn h2)
  · rename_i heq; simp at heq; subst heq
    exact value (vBin_ok hE hk (hst.ev _) (hst.ev _) w) (fun _ h => h) (fun z h => by simp only [execOp]; rw [Sem.run_bind, h]; rfl)
  · rename_i heq; simp at heq; subst heq
    exact value (vUn_ok hk (hst.ev _) w) (fun _ h => h) (fun z h => by simp [execOp, h])
  · rename_i heq; simp at heq; subst heq
    exact value (vConv_ok hE hk (hst.ev _) hst.heap) (fun _ h => h) (fun z h => by simp [execOp, h])
  · rename_i f first cap heq; simp at heq; subst heq
    obtain ⟨hf, hk⟩ := hk
    have hf' : first = #[] := by simpa using hf
    subst hf'
    have hca := hst.args cap.toList
    exact wp_value (v := .func (.func f) #[] (cap.map a.eval)) (w' := w) (by simp [execOp, Instr.makeFunc])
      (hK c _ w _ _ _ (.refl c) (by have := RelV.fn (c := c) (f := f) hca.1.symm hca.2; rwa [show (cap.toList.map a.eval).toArray = cap.map a.eval from by apply Array.ext'; simp] at this) hst.heap hst.hn hk)
  · rename_i heq; simp at heq; subst heq
    exact made (vMake_ok hE hk hst (hst.ev _) (hst.ev _)) (fun z w' h => by simp [execOp, h])
  · rename_i heq; simp at heq; subst heq
    exact value (vSlice_ok hE hk hst (hst.ev _)) (fun _ h => h) (fun z h => by simp [execOp, h])
  · rename_i heq; simp at heq; subst heq
    exact value (vFldA_ok hE hk (hst.ev _) w) (fun _ h => h) (fun z h => by simp [execOp, h])
  · rename_i heq; simp at heq; subst heq
    exact value (vIdxA_ok hE hk hst (hst.ev _) (hst.ev _)) (fun _ h => h) (fun z h => by simp [execOp, h])
  · rename_i heq; simp at heq; subst heq
    exact value (vIdx_ok hE hk (hst.ev _) (hst.ev _) w) (fun _ h => h) (fun z h => by simp [execOp, h])
  · rename_i heq; simp at heq; subst heq
    exact value (vExt_ok hk (hst.ev _) w) (fun _ h => h) (fun z h => by simp [execOp, h])
  · rename_i heq; simp at heq; subst heq
    exact made (vMakeMap_ok hk hst) (fun z w' h => by simp [execOp, h])
  · rename_i heq; simp at heq; subst heq
    exact value (vLookup_ok hE hk hst (hst.ev _) (hst.ev _)) (fun _ h => h) (fun z h => by simp [execOp, h])
  · rename_i T x i y heq; simp at heq; subst heq
    obtain ⟨w', b, l, h1, h2, h3, h4⟩ := vMapUpd_ok hE hk hst (hst.ev _) (hst.ev _) (hst.ev _)
    unfold Oper.wp
    have hrun : (execOp a.eval ⟨dst, .mapUpdate T x i y, ty, pos, after, guard⟩).run P w = .ok .skip w' := by simp only [execOp, Sem.run_bind, h1]; rfl
    rw [hrun]
    exact hK c undef w' _ b l (.refl c) (.v _) h2 h3 h4
  · rename_i T x i y heq; simp at heq; subst heq
    obtain ⟨w', b, l, h1, h2, h3, h4⟩ := vMapUpd_ok hE hk hst (hst.ev _) (hst.ev _) (hst.ev _)
    unfold Oper.wp
    have hrun : (execOp a.eval ⟨dst, .insert T x i y, ty, pos, after, guard⟩).run P w = .ok .skip w' := by simp only [execOp, Sem.run_bind, h1]; rfl
    rw [hrun]
    exact hK c undef w' _ b l (.refl c) (.v _) h2 h3 h4
  · rename_i heq; simp at heq; subst heq
    exact made (vMapEnt_ok hE hk hst (hst.ev _) (hst.ev _)) (fun z w' h => by simp [execOp, h])
  · rename_i T x i y heq; simp at heq; subst heq
    obtain ⟨w', b, l, h1, h2, h3, h4⟩ := vEntSt_ok (P := P) (T := T) hk hst (hst.ev _) (hst.ev _) (hst.ev _)
    unfold Oper.wp
    have hrun : (execOp a.eval ⟨dst, .entryStore T x i y, ty, pos, after, guard⟩).run P w = .ok .skip w' := by simp only [execOp, Sem.run_bind, h1]; rfl
    rw [hrun]
    exact hK c undef w' _ b l (.refl c) (.v _) h2 h3 h4
  · rename_i heq; simp at heq; subst heq
    exact made (vRange_ok hE hk hst (hst.ev _)) (fun z w' h => by simp [execOp, h])
  · rename_i heq; simp at heq; subst heq
    exact made (vNext_ok hk hst (hst.ev _) ty) (fun z w' h => by simp [execOp, h])
  · rename_i heq; simp at heq; subst heq
    exact value (vEntry_ok hk hst (hst.ev _)) (fun _ h => h) (fun z h => by simp [execOp, h])
  · rename_i cl heq; simp at heq; subst heq
    obtain ⟨callee, args, ts⟩ := cl
    have arr1 : ∀ {α : Type} {l : Array α} {x : α}, l.toList = [x] → l = #[x] := fun h => by apply Array.ext'; simpa using h
    have arr2 : ∀ {α : Type} {l : Array α} {x y : α}, l.toList = [x, y] → l = #[x, y] := fun h => by apply Array.ext'; simpa using h
    cases callee with
    | invoke r m => simp [vcCall] at hk
    | value f => exact vCall_ok hst rfl rfl hk hK
    | builtin b =>
      rcases hA : args.toList with _ | ⟨x, _ | ⟨y, _ | ⟨y2, rest⟩⟩⟩
      · cases b <;> simp [vcCall, hA] at hk
      · cases b <;> simp only [vcCall, hA] at hk
        case len =>
          rcases hT : ts.toList with _ | ⟨T, _ | ⟨T', rest⟩⟩ <;> simp only [hT] at hk
          have := arr1 hA; subst this
          have := arr1 hT; subst this
          exact value (vLen_ok hE (ty := ty) hk (hst.ev _) w) (fun _ h => h) (fun z h => by simp [execOp, resolve, invoke, builtin, h])
      · cases b <;> simp only [vcCall, hA] at hk
        case append =>
          rcases hT : ts.toList with _ | ⟨T, _ | ⟨T', _ | ⟨T2, rest⟩⟩⟩ <;> simp only [hT] at hk
          have := arr2 hA; subst this
          have := arr2 hT; subst this
          obtain ⟨rfl, hk⟩ := hk
          exact made (vAppend_ok hE (ty := ty) hk hst (hst.ev _) (hst.ev _)) (fun z w' h => by simp [execOp, resolve, invoke, builtin, h])
        case copy =>
          rcases hT : ts.toList with _ | ⟨T, _ | ⟨T', _ | ⟨T2, rest⟩⟩⟩ <;> simp only [hT] at hk
          have := arr2 hA; subst this
          have := arr2 hT; subst this
          obtain ⟨rfl, hk⟩ := hk
          exact made (vCopy_ok hE (ty := ty) hk hst (hst.ev _) (hst.ev _)) (fun z w' h => by simp [execOp, resolve, invoke, builtin, h])
        case max =>
          have := arr2 hA; subst this
          have := vMin_ok (P := P) (ts := ts) (ty := ty) hk (hst.ev _) (hst.ev _) w
          exact value this (fun _ h => h) (fun z h => by simp at h; simp [execOp, resolve, invoke, builtin, h])
        case min =>
          have := arr2 hA; subst this
          have := vMin_ok (P := P) (ts := ts) (ty := ty) hk (hst.ev _) (hst.ev _) w
          exact value this (fun _ h => h) (fun z h => by simp at h; simp [execOp, resolve, invoke, builtin, h])
      · cases b <;> simp [vcCall, hA] at hk
  · exact hk.elim
end Go.Eng
end
section
set_option linter.unusedSimpArgs false
set_option linter.unusedVariables false
namespace Go.Eng
variable {P : Program} {E : Env}
def dstOk (N : Nat) : Option Nat → Prop
  | none => True
  | some t => t < N
/-- Does an operation run? Its guard's temporary says so. -/
def vGuard (ops : List Oper) (g : Option (Nat × Bool)) (st : St) (run skip : Prop) : Prop :=
  match g with
  | none => run
  | some (j, want) =>
    match (ops[j]?).bind (·.dst) with
    | none => False
    | some t => t < st.N ∧
      match lk st.slots t with
      | .v (.bool b) => (b = want → run) ∧ (b ≠ want → skip)
      | .v (.tuple _) => skip
      | _ => False
/-- THE OPERATIONS OF A REGION, ONE AFTER ANOTHER. -/
def vcL (P : Program) (E : Env) (ops : List Oper) : List Oper → St → (St → Prop) → Prop
  | [], st, K => K st
  | o :: rest, st, K =>
    vGuard ops o.guard st
      (dstOk st.N o.dst ∧ vcOp P E o.op st (fun r b l => vcL P E ops rest (({ st with base := b, loc := l } : St).put o.dst r) K))
      (dstOk st.N o.dst ∧ vcL P E ops rest (st.put o.dst (.v undef)) K)
theorem dstOk_lt {N : Nat} {d : Option Nat} (h : dstOk N d) : ∀ t, d = some t → t < N := by
  intro t ht; subst ht; exact h
theorem yielded_of {n : Nat} {c : Ctx} {st : St} {a : Act} {w : World} (hst : RelSt n c st a w) {ops : List Oper} {j t : Nat} (ht : (ops[j]?).bind (·.dst) = some t) (hlt : t < st.N) :
    yielded ops.toArray a.tmps j = (match a.tmps.getD t undef with | .bool b => some b | _ => none) := by
  unfold yielded
  rw [List.getElem?_toArray, ht]
  have hs : t < a.tmps.size := by rw [hst.size]; exact hlt
  have h1 : a.tmps[t]? = some (a.tmps.getD t undef) := by simp [hs]
  simp only [Option.bind_some, h1]
  cases a.tmps.getD t undef <;> rfl
theorem vcL_ok (hE : EnvOk P E) (ops : List Oper) : ∀ (rest : List Oper) {n : Nat} {c : Ctx} {st : St} {a : Act} {w : World} (_ : RelSt n c st a w) {K : St → Prop} (_ : vcL P E ops rest st K)
    {Q : Exit → Act → World → Prop} (_ : ∀ c' st' a' w', Ext c c' → RelSt n c' st' a' w' → K st' → Q .normal a' w'), wpList P ops.toArray Q rest a w
  | [], n, c, st, a, w, hst, K, hk, Q, hQ => hQ c st a w (.refl c) hst hk
  | o :: rest, n, c, st, a, w, hst, K, hk, Q, hQ => by
    have run : (dstOk st.N o.dst ∧ vcOp P E o.op st (fun r b l => vcL P E ops rest (({ st with base := b, loc := l } : St).put o.dst r) K)) → o.wp P a w (wpList P ops.toArray Q rest) Q := by
      rintro ⟨hd, hop⟩
      refine vcOp_ok hE hst hop fun c' v w' r b l he hr hh hb hkk => ?_
      exact vcL_ok hE ops rest (hst.put he o.dst (dstOk_lt hd) hr hb hh) hkk (fun c2 st2 a2 w2 he2 => hQ c2 st2 a2 w2 (he.trans he2))
    have skip : (dstOk st.N o.dst ∧ vcL P E ops rest (st.put o.dst (.v undef)) K) → wpList P ops.toArray Q rest (a.put o.dst undef) w := by
      rintro ⟨hd, hop⟩
      exact vcL_ok hE ops rest (hst.put (.refl c) o.dst (dstOk_lt hd) (.v _) hst.hn hst.heap) hop hQ
    unfold vcL vGuard at hk
    unfold wpList
    split at hk
    · rename_i hg
      rw [if_pos (by simp [Region.wanted, hg])]
      exact .inl (run hk)
    · rename_i j want hg
      split at hk
      · exact hk.elim
      · rename_i t ht
        obtain ⟨hlt, hk⟩ := hk
        have hy := yielded_of hst ht hlt
        have hv := hst.slots t
        split at hk
        · rename_i b hb
          rw [hb] at hv
          have hv' := hv.v_inv
          rw [hv'] at hy
          by_cases hbw : b = want
          · rw [if_pos (by simp [Region.wanted, hg, hy, hbw])]
            exact .inl (run (hk.1 hbw))
          · rw [if_neg (by simp [Region.wanted, hg, hy, hbw])]
            exact skip (hk.2 hbw)
        · rename_i vs hb
          rw [hb] at hv
          have hv' := hv.v_inv
          rw [hv'] at hy
          rw [if_neg (by simp [Region.wanted, hg, hy])]
          exact skip hk
        · exact hk.elim
/-! ### Code -/
/-- The machine stands at a state; n numbers at least are below the state's own boxes. -/
structure RelN (n : Nat) (c : Ctx) (st : St) (a : Act) (w : World) : Prop where
  le : n ≤ st.base.length
  rel : RelSt st.base.length c st a w
theorem RelN.of {n m : Nat} {c : Ctx} {st : St} {a : Act} {w : World} (h : n ≤ m) (hr : RelSt m c st a w) : RelN n c st a w := by
  have := hr.hn; subst this; exact ⟨h, hr⟩
/-- THE GOAL: from a state, this code leads to a state (and a way out of the code) that meets Q; the numbers below n keep what they stand for. -/
def AW (P : Program) (n : Nat) (code : Code) (Q : Exit → St → Prop) (st : St) : Prop :=
  ∀ c a w, RelN n c st a w → code.wp P (fun e a' w' => ∃ c' st', ExtB n c c' ∧ RelN n c' st' a' w' ∧ Q e st') a w
def thenQ (K : St → Prop) (Q : Exit → St → Prop) : Exit → St → Prop
  | .normal, st => K st
  | e, st => Q e st
def blockQ (id : Nat) (Q : Exit → St → Prop) : Exit → St → Prop
  | .exit id', st => if id' = id then Q .normal st else Q (.exit id') st
  | e, st => Q e st
section
variable {n : Nat} {Q : Exit → St → Prop} {st : St}
theorem AW.skip (h : Q .normal st) : AW P n .skip Q st := fun c a w hst => wp_skip ⟨c, st, .refl n c, hst, h⟩
theorem AW.exit {id : Nat} (h : Q (.exit id) st) : AW P n (.exit id) Q st := fun c a w hst => wp_exit ⟨c, st, .refl n c, hst, h⟩
theorem AW.ret (h : Q .ret st) : AW P n .ret Q st := fun c a w hst => wp_ret ⟨c, st, .refl n c, hst, h⟩
theorem AW.mono {code : Code} {Q' : Exit → St → Prop} (h : AW P n code Q st) (hq : ∀ e st', Q e st' → Q' e st') : AW P n code Q' st :=
  fun c a w hst => wp_mono (h c a w hst) fun e a' w' ⟨c', st', h1, h2, h3⟩ => ⟨c', st', h1, h2, hq e st' h3⟩
theorem AW.seq {x y : Code} (h : AW P n x (thenQ (fun st' => AW P n y Q st') Q) st) : AW P n (.seq x y) Q st := by
  intro c a w hst
  refine wp_seq (wp_mono (h c a w hst) ?_)
  rintro e a' w' ⟨c', st', he, hr, hq⟩
  cases e with
  | normal => exact wp_mono (hq c' a' w' hr) fun e2 a2 w2 ⟨c2, st2, h1, h2, h3⟩ => ⟨c2, st2, he.trans h1, h2, h3⟩
  | exit id => exact ⟨c', st', he, hr, hq⟩
  | goto l => exact ⟨c', st', he, hr, hq⟩
  | ret => exact ⟨c', st', he, hr, hq⟩
  | panic ch => exact ⟨c', st', he, hr, hq⟩
  | outgrown => exact ⟨c', st', he, hr, hq⟩
/-- A region in the text's order: what follows stands behind a variable while the operations are gone through. -/
theorem AW.region (hE : EnvOk P E) {id : Nat} {l : List Oper} (h : ∀ K : St → Prop, (∀ st', Q .normal st' → K st') → vcL P E l l st K) : AW P n (.region id l.toArray false) Q st := by
  intro c a w hst
  refine wp_region_lit (vcL_ok hE l l hst.rel (h _ (fun _ h => h)) ?_)
  intro c' st' a' w' he hr hq
  exact ⟨c', st', he.toB n, .of hst.le hr, hq⟩
theorem AW.cond {x : Operand} {b : Bool} {p q : Code} (hx : st.ev x = .v (.bool b)) (ht : b = true → AW P n p Q st) (hf : b = false → AW P n q Q st) : AW P n (.cond x p q) Q st := by
  intro c a w hst
  have hv := hst.rel.ev x
  rw [hx] at hv
  exact wp_cond_split hv.v_inv (fun h => ht h c a w hst) (fun h => hf h c a w hst)
theorem AW.cond_dec {x : Operand} {t : Prop} [Decidable t] {p q : Code} (hx : st.ev x = .v (.bool (decide t))) (ht : t → AW P n p Q st) (hf : ¬ t → AW P n q Q st) : AW P n (.cond x p q) Q st :=
  AW.cond hx (fun h => ht (of_decide_eq_true h)) (fun h => hf (of_decide_eq_false h))
theorem AW.cond_t {x : Operand} {p q : Code} (hx : st.ev x = .v (.bool true)) (ht : AW P n p Q st) : AW P n (.cond x p q) Q st :=
  AW.cond hx (fun _ => ht) (fun h => by cases h)
theorem AW.cond_f {x : Operand} {p q : Code} (hx : st.ev x = .v (.bool false)) (ht : AW P n q Q st) : AW P n (.cond x p q) Q st :=
  AW.cond hx (fun h => by cases h) (fun _ => ht)
theorem AW.block {id : Nat} {x : Code} (h : AW P n x (blockQ id Q) st) : AW P n (.block id x) Q st := by
  intro c a w hst
  refine wp_block (wp_mono (h c a w hst) ?_)
  rintro e a' w' ⟨c', st', he, hr, hq⟩
  cases e with
  | exit id' =>
    show if id' = id then _ else _
    simp only [blockQ] at hq
    by_cases hid : id' = id
    · rw [if_pos hid] at hq ⊢; exact ⟨c', st', he, hr, hq⟩
    · rw [if_neg hid] at hq ⊢; exact ⟨c', st', he, hr, hq⟩
  | normal => exact ⟨c', st', he, hr, hq⟩
  | goto l => exact ⟨c', st', he, hr, hq⟩
  | ret => exact ⟨c', st', he, hr, hq⟩
  | panic ch => exact ⟨c', st', he, hr, hq⟩
  | outgrown => exact ⟨c', st', he, hr, hq⟩
/-- A state may be said otherwise, or less of it. -/
def Weak (n : Nat) (st st2 : St) : Prop := ∀ c a w, RelN n c st a w → ∃ c', ExtB n c c' ∧ RelN n c' st2 a w
theorem Weak.refl (n : Nat) (st : St) : Weak n st st := fun c _ _ h => ⟨c, .refl n c, h⟩
theorem Weak.trans {st1 st2 : St} (h : Weak n st st1) (k : Weak n st1 st2) : Weak n st st2 := fun c a w hr => by
  obtain ⟨c1, h1, h2⟩ := h c a w hr
  obtain ⟨c2, h3, h4⟩ := k c1 a w h2
  exact ⟨c2, h1.trans h3, h4⟩
theorem AW.weak {code : Code} {st2 : St} (h : Weak n st st2) (k : AW P n code Q st2) : AW P n code Q st := fun c a w hr => by
  obtain ⟨c1, h1, h2⟩ := h c a w hr
  exact wp_mono (k c1 a w h2) fun e a' w' ⟨c', st', g1, g2, g3⟩ => ⟨c', st', h1.trans g1, g2, g3⟩
/-- A LOOP: a relation that holds at each round's head, indexed by whatever serves (α), and a measure that each round lowers. -/
theorem AW.loop {α : Type} (S : α → St) (I : α → Prop) (μ : α → Nat) {body : Code} (i₀ : α) (h0 : I i₀) (hw : Weak n st (S i₀))
    (round : ∀ i, I i → AW P n body (thenQ (fun st' => ∃ i', I i' ∧ μ i' < μ i ∧ Weak n st' (S i')) Q) (S i)) : AW P n (.loop body) Q st := by
  refine AW.weak hw ?_
  intro c a w hst
  intro b k cs
  have key : ∀ m i, μ i = m → I i → ∀ c1 a w, ExtB n c c1 → RelN n c1 (S i) a w → ∃ e a' w', (∃ c' st', ExtB n c c' ∧ RelN n c' st' a' w' ∧ Q e st') ∧
      Arrives P (lone (b.at a (.code body :: .inLoop body :: k)) cs w) b k cs e a' w' := by
    intro m
    induction m using Nat.strongRecOn with
    | _ m ih =>
      intro i hm hi c1 a w he hr
      obtain ⟨e, a₁, w₁, ⟨c2, st2, he2, hr2, hq⟩, harr⟩ := round i hi c1 a w hr b (.inLoop body :: k) cs
      cases e with
      | normal =>
        obtain ⟨i', hi', hlt, hwk⟩ := hq
        obtain ⟨c3, he3, hr3⟩ := hwk c2 a₁ w₁ hr2
        obtain ⟨e₂, a₂, w₂, hq₂, harr₂⟩ := ih (μ i') (hm ▸ hlt) i' rfl hi' c3 a₁ w₁ ((he.trans he2).trans he3) hr3
        exact ⟨e₂, a₂, w₂, hq₂, .of_steps (Steps.trans harr (.one step_inLoop)) harr₂⟩
      | exit id => exact ⟨_, a₁, w₁, ⟨c2, st2, he.trans he2, hr2, hq⟩, .pass (x := .inLoop body) rfl (fun _ _ => .inl (by simp)) harr⟩
      | goto l => exact ⟨_, a₁, w₁, ⟨c2, st2, he.trans he2, hr2, hq⟩, .pass (x := .inLoop body) rfl (fun _ _ => .inl (by simp)) harr⟩
      | ret => exact ⟨_, a₁, w₁, ⟨c2, st2, he.trans he2, hr2, hq⟩, .pass (x := .inLoop body) rfl (fun _ _ => .inl (by simp)) harr⟩
      | panic ch => exact ⟨_, a₁, w₁, ⟨c2, st2, he.trans he2, hr2, hq⟩, .pass (x := .inLoop body) rfl (fun _ _ => .inl (by simp)) harr⟩
      | outgrown => exact ⟨_, a₁, w₁, ⟨c2, st2, he.trans he2, hr2, hq⟩, .pass (x := .inLoop body) rfl (fun _ _ => .inl (by simp)) harr⟩
  obtain ⟨e, a', w', hq, harr⟩ := key _ i₀ rfl h0 c a w (.refl n c) hst
  exact ⟨e, a', w', hq, .of_steps (.one step_loop) harr⟩
end
end Go.Eng
end
section
set_option linter.unusedSimpArgs false
set_option linter.unusedVariables false
namespace Go.Eng
variable {P : Program} {E : Env}
/-- All numbers in a box's content are below n. -/
def BoxLt (n : Nat) : ABox → Prop
  | .dead => True
  | .box _ cs => ∀ i, i < cs.length → IdsLt n (cs.getD i .junk)
  | .row _ e xs => ∀ i j, i < xs.length → j < e.sz → IdsLt n ((e.enc (xs.getD i e.d)).getD j .junk)
  | .map _ _ => True
  | .iter m _ _ => m < n
  | .tab _ _ => True
def BaseLt (n : Nat) (H : List ABox) : Prop := ∀ k, k < H.length → BoxLt n (H.getD k .dead)
theorem RelH.baseLt {c : Ctx} {H : List ABox} {w : World} (h : RelH c H w) : BaseLt H.length H := by
  intro k hk
  have hd : ∀ k l, c.loc k = some l → k < H.length := fun k l hl => h.lt hl
  have hg : H[k]? = some (H.getD k .dead) := by simp [List.getD, hk]
  cases hX : H.getD k .dead with
  | dead => trivial
  | box ro cs =>
    rw [hX] at hg
    obtain ⟨l, hl, hB⟩ := h.box k _ hg rfl
    intro i hi
    obtain ⟨u, _, hr⟩ := hB.box_cells i hi
    exact hr.ids hd
  | row ro e xs =>
    rw [hX] at hg
    obtain ⟨l, hl, hB⟩ := h.box k _ hg rfl
    intro i j hi hj
    obtain ⟨u, _, hr⟩ := hB.row_cells hi j (by rw [ETy.enc_length]; exact hj)
    exact hr.ids hd
  | map kk es => trivial
  | iter m since seen =>
    rw [hX] at hg
    obtain ⟨l, hl, ⟨lm, h1, h2⟩, h3⟩ := h.box k _ hg rfl
    exact hd _ _ h1
  | tab g o => trivial
/-- The new value (its local numbers index 'idx') says no more than the old one. -/
inductive RenV (n : Nat) (idx : List Nat) : AVal → AVal → Prop where
  | junk (a : AVal) : RenV n idx .junk a
  | low {a : AVal} (h : IdsLt n a) : RenV n idx a a
  | ptr {sz i j p q : Nat} (h : idx[j]? = some i) : RenV n idx (.ptr sz (n + j) p q) (.ptr sz (n + i) p q)
  | sl {sz i j off m : Nat} (h : idx[j]? = some i) : RenV n idx (.sl sz (n + j) off m) (.sl sz (n + i) off m)
  | mp {i j : Nat} (h : idx[j]? = some i) : RenV n idx (.mp (n + j)) (.mp (n + i))
  | it {i j : Nat} (h : idx[j]? = some i) : RenV n idx (.it (n + j)) (.it (n + i))
  | agg {cs cs' : List AVal} (hl : cs'.length = cs.length) (h : ∀ i, i < cs.length → RenV n idx (cs'.getD i .junk) (cs.getD i .junk)) : RenV n idx (.agg cs') (.agg cs)
  | tup {cs cs' : List AVal} (hl : cs'.length = cs.length) (h : ∀ i, i < cs.length → RenV n idx (cs'.getD i .junk) (cs.getD i .junk)) : RenV n idx (.tup cs') (.tup cs)
  | fn {f : FuncId} {cs cs' : List AVal} (hl : cs'.length = cs.length) (h : ∀ i, i < cs.length → RenV n idx (cs'.getD i .junk) (cs.getD i .junk)) : RenV n idx (.fn f cs') (.fn f cs)
def Ctx.sel (c : Ctx) (n : Nat) (idx : List Nat) : Ctx := { c with loc := fun k => if k < n then c.loc k else (idx[k - n]?).bind fun i => c.loc (n + i) }
theorem Ctx.sel_low {c : Ctx} {n : Nat} {idx : List Nat} {k : Nat} (h : k < n) : (c.sel n idx).loc k = c.loc k := by simp [Ctx.sel, h]
theorem Ctx.sel_loc {c : Ctx} {n : Nat} {idx : List Nat} {i j : Nat} (h : idx[j]? = some i) : (c.sel n idx).loc (n + j) = c.loc (n + i) := by
  have h1 : ¬ n + j < n := by omega
  simp [Ctx.sel, h, h1]
theorem Ctx.sel_ext (c : Ctx) (n : Nat) (idx : List Nat) : ExtB n c (c.sel n idx) := ⟨⟨rfl, rfl, rfl, fun _ _ h => h⟩, fun k l hk hl => by rw [Ctx.sel_low hk]; exact hl⟩
theorem RelV.ren {n : Nat} {idx : List Nat} {c : Ctx} {a' a : AVal} (hr : RenV n idx a' a) : ∀ {v : Value}, RelV c a v → RelV (c.sel n idx) a' v := by
  induction hr with
  | junk a => intro v _; exact .junk v
  | low h => intro v hv; exact hv.extB (c.sel_ext n idx) h
  | ptr h => intro v hv; cases hv with | ptr hl => exact .ptr (by rw [Ctx.sel_loc h]; exact hl)
  | sl h => intro v hv; cases hv with | sl hl hn ha => exact .sl (by rw [Ctx.sel_loc h]; exact hl) hn ha
  | mp h => intro v hv; cases hv with | mp hl => exact .mp (by rw [Ctx.sel_loc h]; exact hl)
  | it h => intro v hv; cases hv with | it hl => exact .it (by rw [Ctx.sel_loc h]; exact hl)
  | agg hl h ih => intro v hv; cases hv with | agg hl' h' => exact .agg (hl.trans hl') (fun i hi => ih i (by omega) (h' i (by omega)))
  | tup hl h ih => intro v hv; cases hv with | tup hl' h' => exact .tup (hl.trans hl') (fun i hi => ih i (by omega) (h' i (by omega)))
  | fn hl h ih => intro v hv; cases hv with | fn hl' h' => exact .fn (hl.trans hl') (fun i hi => ih i (by omega) (h' i (by omega)))
/-- The new box says no more than the old one. -/
inductive RenB (n : Nat) (idx : List Nat) : ABox → ABox → Prop where
  | dead (X : ABox) : RenB n idx .dead X
  | low {X : ABox} (h : BoxLt n X) : RenB n idx X X
  | box {ro : Bool} {cs cs' : List AVal} (hl : cs'.length = cs.length) (h : ∀ i, i < cs.length → RenV n idx (cs'.getD i .junk) (cs.getD i .junk)) : RenB n idx (.box ro cs') (.box ro cs)
  | map (kk : KK) (es : List (kk.T × Value)) : RenB n idx (.map kk es) (.map kk es)
  | iter {i j since : Nat} {seen : List Nat} (h : idx[j]? = some i) : RenB n idx (.iter (n + j) since seen) (.iter (n + i) since seen)
  | row {ro : Bool} {e : ETy} {xs xs' : List e.T} (hl : xs'.length = xs.length) (h : ∀ i j, i < xs.length → j < e.sz → RenV n idx ((e.enc (xs'.getD i e.d)).getD j .junk) ((e.enc (xs.getD i e.d)).getD j .junk)) : RenB n idx (.row ro e xs') (.row ro e xs)
theorem RenB.live {n : Nat} {idx : List Nat} {X' X : ABox} (h : RenB n idx X' X) (hl : X'.live = true) : X.live = true := by
  cases h with
  | dead => cases hl
  | low => exact hl
  | box => rfl
  | map => rfl
  | iter => rfl
  | row => rfl
theorem RelB.ren {n : Nat} {idx : List Nat} {c : Ctx} {w : World} {l : Loc} {X' X : ABox} (hr : RenB n idx X' X) (h : RelB c w l X) : RelB (c.sel n idx) w l X' := by
  cases hr with
  | dead => trivial
  | low hlt =>
    cases X' with
    | dead => trivial
    | box ro cs =>
      obtain ⟨cells, T, h1, h2, h3⟩ := h
      exact ⟨cells, T, h1, h2, fun j hj => by obtain ⟨u, hu, hr⟩ := h3 j hj; exact ⟨u, hu, hr.extB (c.sel_ext n idx) (hlt j hj)⟩⟩
    | row ro e xs =>
      obtain ⟨cells, T, h1, h2, h3, h4, h5⟩ := h
      exact ⟨cells, T, h1, h2, h3, h4, fun i j hi hj => by obtain ⟨u, hu, hr⟩ := h5 i j hi hj; exact ⟨u, hu, hr.extB (c.sel_ext n idx) (hlt i j hi hj)⟩⟩
    | map kk es => exact h
    | iter m since seen =>
      obtain ⟨⟨lm, h1, h2⟩, h3⟩ := h
      exact ⟨⟨lm, (Ctx.sel_low hlt).trans h1, h2⟩, h3⟩
    | tab g o => exact h
  | map => exact h
  | iter hi =>
    obtain ⟨⟨lm, h1, h2⟩, h3⟩ := h
    exact ⟨⟨lm, (Ctx.sel_loc hi).trans h1, h2⟩, h3⟩
  | box hl hh =>
    obtain ⟨cells, T, h1, h2, h3⟩ := h
    exact ⟨cells, T, h1, h2, fun j hj => by obtain ⟨u, hu, hr⟩ := h3 j (by omega); exact ⟨u, hu, hr.ren (hh j (by omega))⟩⟩
  | row hl hh =>
    obtain ⟨cells, T, h1, h2, h3, h4, h5⟩ := h
    exact ⟨cells, T, h1, h2, h3, by omega, fun i j hi hj => by obtain ⟨u, hu, hr⟩ := h5 i j (by omega) hj; exact ⟨u, hu, hr.ren (hh i j (by omega) hj)⟩⟩
def RenL (n : Nat) (idx : List Nat) (loc : List ABox) : List ABox → List Nat → Prop
  | [], [] => True
  | X :: r, i :: ir => RenB n idx X (loc.getD i .dead) ∧ i < loc.length ∧ RenL n idx loc r ir
  | _, _ => False
theorem RenL.spec {n : Nat} {idx : List Nat} {loc : List ABox} : ∀ {L : List ABox} {is : List Nat}, RenL n idx loc L is → L.length = is.length ∧ ∀ j i, is[j]? = some i → i < loc.length ∧ RenB n idx (L.getD j .dead) (loc.getD i .dead)
  | [], [], _ => ⟨rfl, fun j i h => by simp at h⟩
  | [], _ :: _, h => h.elim
  | _ :: _, [], h => h.elim
  | X :: r, i0 :: ir, h => by
    obtain ⟨h1, h2, h3⟩ := h
    obtain ⟨g1, g2⟩ := RenL.spec h3
    refine ⟨by simp [g1], fun j i hj => ?_⟩
    cases j with
    | zero => simp at hj; subst hj; exact ⟨h2, by simpa using h1⟩
    | succ j => simp at hj; have := g2 j i hj; simpa using this
theorem RelH.sel {n : Nat} {idx : List Nat} {c : Ctx} {B L L' : List ABox} {w : World} (h : RelH c (B ++ L) w) (hB : BaseLt n B) (hn : B.length = n) (hr : RenL n idx L L' idx) (hnd : idx.Nodup) :
    RelH (c.sel n idx) (B ++ L') w := by
  obtain ⟨hlen, hspec⟩ := hr.spec
  have key : ∀ (k : Nat) (X : ABox), (B ++ L')[k]? = some X → X.live = true → ∃ k0 X0, (B ++ L)[k0]? = some X0 ∧ X0.live = true ∧ (c.sel n idx).loc k = c.loc k0 ∧ RenB n idx X X0 ∧
      ((k < n ∧ k0 = k) ∨ ∃ j i, k = n + j ∧ k0 = n + i ∧ idx[j]? = some i) := fun k X hk hX => by
    rcases Nat.lt_or_ge k n with h1 | h1
    · rw [List.getElem?_append_left (by omega)] at hk
      refine ⟨k, X, by rw [List.getElem?_append_left (by omega)]; exact hk, hX, Ctx.sel_low h1, .low ?_, .inl ⟨h1, rfl⟩⟩
      have := hB k (by omega)
      rwa [List.getD, hk] at this
    · rw [List.getElem?_append_right (by omega), hn] at hk
      have hj : k - n < idx.length := by rw [← hlen]; exact (List.getElem?_eq_some_iff.1 hk).1
      obtain ⟨i, hi⟩ : ∃ i, idx[k - n]? = some i := ⟨_, List.getElem?_eq_getElem hj⟩
      obtain ⟨h2, h3⟩ := hspec _ _ hi
      rw [List.getD, hk] at h3
      have h4 : L[i]? = some (L.getD i .dead) := by simp [List.getD, h2]
      have hkk : n + (k - n) = k := by omega
      refine ⟨n + i, L.getD i .dead, by rw [List.getElem?_append_right (by omega), hn, Nat.add_sub_cancel_left]; exact h4, h3.live hX, ?_, h3, .inr ⟨k - n, i, hkk.symm, rfl, hi⟩⟩
      have := Ctx.sel_loc (c := c) (n := n) hi
      rwa [hkk] at this
  refine ⟨h.os, h.tape, h.output, h.sealed, fun k hk => ?_, fun k X hk hX => ?_, ?_⟩
  · simp [hlen, hn] at hk
    have h1 : ¬ k < n := by omega
    have h2 : idx[k - n]? = none := List.getElem?_eq_none (by omega)
    simp [Ctx.sel, h1, h2]
  · obtain ⟨k0, X0, g1, g2, g3, g4, _⟩ := key k X hk hX
    obtain ⟨l, hl, hB'⟩ := h.box k0 X0 g1 g2
    exact ⟨l, g3.trans hl, hB'.ren g4⟩
  · intro k k' l l' X X' hk hX hk' hX' hl hl' hb
    obtain ⟨k0, X0, g1, g2, g3, g4, g5⟩ := key k X hk hX
    obtain ⟨k0', X0', g1', g2', g3', g4', g5'⟩ := key k' X' hk' hX'
    have := h.inj k0 k0' l l' X0 X0' g1 g2 g1' g2' (g3.symm.trans hl) (g3'.symm.trans hl') hb
    rcases g5 with ⟨h1, rfl⟩ | ⟨j, i, rfl, rfl, hi⟩ <;> rcases g5' with ⟨h1', rfl⟩ | ⟨j', i', rfl, rfl, hi'⟩
    · exact this
    · omega
    · omega
    · have hii : i = i' := by omega
      subst hii
      have hj := (List.getElem?_eq_some_iff.1 hi).1
      have := (List.getElem?_inj hj hnd).1 (hi.trans hi'.symm)
      omega
def RenS (n : Nat) (idx : List Nat) (old : List (Nat × AVal)) : List (Nat × AVal) → Prop
  | [] => True
  | (t, a) :: r => RenV n idx a (lk old t) ∧ RenS n idx old r
theorem RenS.spec {n : Nat} {idx : List Nat} {old : List (Nat × AVal)} : ∀ {sl : List (Nat × AVal)}, RenS n idx old sl → ∀ t, RenV n idx (lk sl t) (lk old t)
  | [], _, t => .junk _
  | (k, a) :: r, h, t => by
    rw [lk_put]
    by_cases e : k = t
    · subst e; rw [if_pos rfl]; exact h.1
    · rw [if_neg e]; exact RenS.spec h.2 t
/-- A STATE SAID OTHERWISE: local boxes kept by their old indices, temporaries forgotten or renamed. -/
theorem Weak.sel {n m : Nat} {st : St} (idx : List Nat) {slots : List (Nat × AVal)} {loc : List ABox} (hB : BaseLt m st.base) (hnd : idx.Nodup) (hr : RenL m idx st.loc loc idx) (hs : RenS m idx st.slots slots) (hm : st.base.length = m := by rfl) :
    Weak n st ⟨st.N, slots, st.base, loc⟩ := fun c a w h => by
  subst hm
  exact ⟨c.sel _ idx, (c.sel_ext _ idx).mono h.le, h.le, h.rel.defers, h.rel.size, fun t => (h.rel.slots t).ren (hs.spec t), h.rel.heap.sel hB rfl hr hnd, rfl⟩
/-- Temporaries forgotten alone. -/
def SubS (old : List (Nat × AVal)) : List (Nat × AVal) → Prop
  | [] => True
  | (t, a) :: r => (a = lk old t) ∧ SubS old r
theorem SubS.spec {old : List (Nat × AVal)} : ∀ {sl : List (Nat × AVal)}, SubS old sl → ∀ t, lk sl t = .junk ∨ lk sl t = lk old t
  | [], _, t => .inl rfl
  | (k, a) :: r, h, t => by
    rw [lk_put]
    by_cases e : k = t
    · subst e; rw [if_pos rfl]; exact .inr h.1
    · rw [if_neg e]; exact SubS.spec h.2 t
theorem Weak.slots {n : Nat} {st : St} {slots : List (Nat × AVal)} (h : SubS st.slots slots) : Weak n st { st with slots := slots } := fun c a w hr =>
  ⟨c, .refl n c, hr.le, hr.rel.defers, hr.rel.size, fun t => by
    show RelV c (lk slots t) _
    rcases h.spec t with h1 | h1
    · rw [h1]; exact .junk _
    · rw [h1]; exact hr.rel.slots t, hr.rel.heap, rfl⟩
/-! ### A function's beginning and end -/
def initS : Nat → List AVal → List (Nat × AVal)
  | _, [] => []
  | k, a :: r => (k, a) :: initS (k + 1) r
theorem lk_initS : ∀ (l : List AVal) (k t : Nat), lk (initS k l) t = if k ≤ t ∧ t < k + l.length then l.getD (t - k) .junk else .junk
  | [], k, t => by simp [initS, lk]
  | a :: r, k, t => by
    rw [initS, lk_put, lk_initS r (k + 1) t]
    by_cases e : k = t
    · subst e; simp
    · rw [if_neg e]
      by_cases h : k + 1 ≤ t ∧ t < k + 1 + r.length
      · have h' : k ≤ t ∧ t < k + (a :: r).length := by simp; omega
        rw [if_pos h, if_pos h']
        have : t - k = (t - (k + 1)) + 1 := by omega
        rw [this]; simp [List.getD]
      · have h' : ¬ (k ≤ t ∧ t < k + (a :: r).length) := by simp; omega
        rw [if_neg h, if_neg h']
/-- What the results are. -/
def vRes (E : Env) (st : St) : List ResultVar → (List AVal → Prop) → Prop
  | [], k => k []
  | .tmp t :: r, k => vRes E st r (fun l => k (lk st.slots t :: l))
  | .cell t T :: r, k => vLoad E T st (lk st.slots t) (fun a => vRes E st r (fun l => k (a :: l)))
def packRes : List AVal → AVal
  | [a] => a
  | l => .tup l
def packVal : List Value → Value
  | [v] => v
  | l => .tuple l.toArray
def resOf (tmps : Array Value) : ResultVar → Sem Value
  | .tmp t => pure (tmps.getD t undef)
  | .cell ad t => do loadVar t (← asAddr (tmps.getD ad undef))
theorem vRes_ok (hE : EnvOk P E) {n : Nat} {c : Ctx} {st : St} {a : Act} {w : World} (hst : RelSt n c st a w) : ∀ (l : List ResultVar) (k : List AVal → Prop), vRes E st l k →
    ∃ vs rs, (l.mapM (resOf a.tmps)).run P w = .ok vs w ∧ RelCs c rs vs ∧ k rs
  | [], k, hk => ⟨[], [], rfl, ⟨rfl, fun i hi => by simp at hi⟩, hk⟩
  | .tmp t :: r, k, hk => by
    obtain ⟨vs, rs, h1, h2, h3⟩ := vRes_ok hE hst r _ hk
    refine ⟨a.tmps.getD t undef :: vs, _ :: rs, ?_, ?_, h3⟩
    · rw [List.mapM_cons]
      simp only [Sem.run_bind, resOf, Sem.run_pure, Result.andThen_ok, h1]
    · have := RelCs.append (c := c) (as := [lk st.slots t]) (us := [a.tmps.getD t undef]) ⟨rfl, fun i hi => (by
        have h0 : i = 0 := by simpa using hi
        subst h0; exact hst.slots t)⟩ h2
      simpa using this
  | .cell t T :: r, k, hk => by
    obtain ⟨z, a1, g1, g2, g3⟩ := vLoad_ok hE hk hst (hst.slots t)
    obtain ⟨vs, rs, h1, h2, h3⟩ := vRes_ok hE hst r _ g3
    have g1' : (do loadVar T (← asAddr (a.tmps.getD t undef)) : Sem Value).run P w = .ok z w := by
      unfold Instr.loadAt at g1
      generalize a.tmps.getD t undef = q at *
      cases q with
      | pointer ao => cases ao with
        | none => simp [Instr.sureAddr, stuck, Sem.run, Result.andThen] at g1
        | some ao => simpa [Instr.sureAddr, asAddr] using g1
      | _ => simp [Instr.sureAddr, stuck, Sem.run, Result.andThen] at g1
    refine ⟨z :: vs, a1 :: rs, ?_, ?_, h3⟩
    · rw [List.mapM_cons, Sem.run_bind]
      show ((do loadVar T (← asAddr (a.tmps.getD t undef)) : Sem Value).run P w).andThen _ = _
      rw [g1']
      simp only [Result.andThen_ok, Sem.run_bind, h1, Sem.run_pure]
    · have := RelCs.append (c := c) (as := [a1]) (us := [z]) ⟨rfl, fun i hi => (by
        have h0 : i = 0 := by simpa using hi
        subst h0; exact g2)⟩ h2
      simpa using this
theorem run_results {fn : Func} {tmps : Array Value} {w : World} {vs : List Value}
    (h : (fn.results.toList.mapM (resOf tmps)).run P w = .ok vs w) :
    (results fn tmps).run P w = .ok (packVal vs) w := by
  have e : results fn tmps = (do let vs ← fn.results.mapM (resOf tmps); pure (if h : vs.size = 1 then vs[0] else .tuple vs)) := by
    unfold results
    congr 1
  rw [e, Sem.run_bind, Array.mapM_eq_mapM_toList]
  simp only [map_eq_pure_bind, Sem.run_bind]
  rw [h]
  simp only [Result.andThen_ok, Sem.run_pure]
  match vs with
  | [] => rfl
  | [v] => rfl
  | a :: b :: r => simp [packVal]
/-- THE RESULTS, HANDED OVER: what the function hands back, over the boxes that its caller sees. -/
def FinOk (n : Nat) (st : St) (r r' : AVal) (H' : List ABox) : Prop :=
  ∀ c v w, n ≤ st.base.length → RelV c r v → RelH c (st.base ++ st.loc) w → ∃ c', ExtB n c c' ∧ RelV c' r' v ∧ RelH c' H' w
def retQ (E : Env) (n : Nat) (results : List ResultVar) (R : AVal → List ABox → Prop) : Exit → St → Prop
  | .ret, st => vRes E st results (fun l => ∃ r' H', FinOk n st (packRes l) r' H' ∧ R r' H')
  | .normal, st => vRes E st results (fun l => ∃ r' H', FinOk n st (packRes l) r' H' ∧ R r' H')
  | _, _ => False
theorem RelCs.pack {c : Ctx} {rs : List AVal} {vs : List Value} (h : RelCs c rs vs) : RelV c (packRes rs) (packVal vs) := by
  obtain ⟨hl, h⟩ := h
  match rs, vs, hl with
  | [], [], _ => exact .tup rfl (fun i hi => by simp at hi)
  | [a], [v], _ => exact h 0 (by simp)
  | a :: b :: r, v :: u :: s, hl => exact .tup hl.symm h
/-- A FUNCTION: its body from its beginning. -/
theorem AC.enter (hE : EnvOk P E) {f : FuncId} {fn : Func} {code : Code} {args : List AVal} {H : List ABox} {R : AVal → List ABox → Prop} (hf : P.funcs[f]? = some fn) (hb : fn.body = some code)
    (hnm : (fn.name == "runtime.NumGoroutine") = false) {N : Nat} (hN : fn.ntmps = N) {rs : List ResultVar} (hres : fn.results = rs.toArray) (hargs : args.length ≤ N)
    (h : BaseLt H.length H → AW P H.length code (retQ E H.length rs R) ⟨N, initS 0 args, H, []⟩) : AC P f args H R := by
  subst hN
  have hrs : fn.results.toList = rs := by rw [hres]
  rw [← hrs] at h
  refine ⟨⟨fn, hf, by rw [hb]; rfl, hnm⟩, fun c vs w hv hh => ?_⟩
  have hl := hv.1
  refine calls_of_wp hf hb ?_
  have hst : RelSt H.length c ⟨fn.ntmps, initS 0 args, H, []⟩ { tmps := vs.toArray ++ Array.replicate (fn.ntmps - vs.toArray.size) undef, defers := [] } w := by
    refine ⟨rfl, by simp; omega, fun t => ?_, by simpa using hh, rfl⟩
    show RelV c (lk (initS 0 args) t) _
    rw [lk_initS]
    by_cases ht : 0 ≤ t ∧ t < 0 + args.length
    · rw [if_pos ht]
      have h1 : t < args.length := by omega
      have h2 := hv.2 t h1
      have h3 : (vs.toArray ++ Array.replicate (fn.ntmps - vs.toArray.size) undef).getD t undef = vs.getD t undef := by
        have h4 : t < vs.length := by omega
        simp [Array.getElem?_append, h4, List.getD]
      rw [h3]; exact h2
    · rw [if_neg ht]; exact .junk _
  refine wp_mono (h hh.baseLt c _ w ⟨Nat.le_refl _, hst⟩) ?_
  rintro e a' w' ⟨c', st', he, hr, hq⟩
  have fin : vRes E st' fn.results.toList (fun l => ∃ r' H', FinOk H.length st' (packRes l) r' H' ∧ R r' H') →
      a'.defers = [] ∧ ∃ v, (results fn a'.tmps).run P w' = .ok v w' ∧ ∃ c'' r v' H', Ext c c'' ∧ Ending.returned v = .returned v' ∧ RelV c'' r v' ∧ RelH c'' H' w' ∧ R r H' := by
    intro hres
    obtain ⟨us, rs, g1, g2, r', H', g3, g4⟩ := vRes_ok hE hr.rel _ _ hres
    obtain ⟨c'', he2, hv2, hh2⟩ := g3 c' _ w' hr.le g2.pack hr.rel.heap
    refine ⟨hr.rel.defers, _, run_results g1, c'', r', _, H', ?_, rfl, hv2, hh2, g4⟩
    exact ⟨(he.trans he2).toSExt, fun k l hk => (he.trans he2).loc k l (hh.lt hk) hk⟩
  cases e with
  | ret => exact fin hq
  | normal => exact fin hq
  | _ => exact hq.elim
/-- A result that bears no number of the call's own: the call's own boxes are forgotten. -/
theorem FinOk.drop {n m : Nat} {st : St} {r : AVal} (hB : BaseLt m st.base) (hr : IdsLt m r) (hm : st.base.length = m := by rfl) : FinOk n st r r st.base := by
  intro c v w hn hv hh
  subst hm
  refine ⟨c.sel _ [], (c.sel_ext _ []).mono hn, hv.extB (c.sel_ext _ []) hr, ?_⟩
  have := hh.sel (idx := []) (L' := []) hB rfl trivial List.nodup_nil
  simpa using this
/-- Boxes of the call's own are handed over, by their indices. -/
theorem FinOk.keep {n m : Nat} {st : St} {r r' : AVal} (idx : List Nat) {L : List ABox} (hB : BaseLt m st.base) (hnd : idx.Nodup) (hL : RenL m idx st.loc L idx) (hr : RenV m idx r' r) (hm : st.base.length = m := by rfl) : FinOk n st r r' (st.base ++ L) := by
  intro c v w hn hv hh
  subst hm
  exact ⟨c.sel _ idx, (c.sel_ext _ idx).mono hn, hv.ren hr, hh.sel hB rfl hL hnd⟩
/-! ### Steps of a walk -/
section
variable {n : Nat} {Q : Exit → St → Prop} {st : St}
theorem AW.sreg (hE : EnvOk P E) {id : Nat} {l : List Oper} {y : Code} (h : ∀ K : St → Prop, (∀ st', AW P n y Q st' → K st') → vcL P E l l st K) : AW P n (.seq (.region id l.toArray false) y) Q st :=
  AW.seq (AW.region hE h)
theorem thenQ_n {K : St → Prop} {st : St} (h : K st) : thenQ K Q .normal st := h
theorem blockQ_same {id : Nat} (h : Q .normal st) : blockQ id Q (.exit id) st := by simp only [blockQ, if_true]; exact h
theorem blockQ_ne {id id' : Nat} (hne : id' ≠ id) (h : Q (.exit id') st) : blockQ id Q (.exit id') st := by simp only [blockQ, if_neg hne]; exact h
theorem retQ_drop {results : List ResultVar} {R : AVal → List ABox → Prop} (h : vRes E st results (fun l => ∃ r' H', FinOk n st (packRes l) r' H' ∧ R r' H')) : retQ E n results R .ret st := h
end
end Go.Eng
end

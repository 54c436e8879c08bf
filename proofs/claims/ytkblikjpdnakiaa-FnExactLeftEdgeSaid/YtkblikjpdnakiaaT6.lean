/- Texts of this seat that the law stands on, put together. No conditions. -/
import Derived.Carry
import Derived.ChangeMaps5
import Derived.ChangeSame
import Derived.ChangeSlices
import Derived.Handed
import Derived.Test.YtkblikjpdnakiaaT5
section
set_option linter.unusedSimpArgs false
set_option linter.unusedVariables false
namespace Go.Eng
open Go.ChangeShapes Go.WideShapes Go.RowKit
variable {P : Program} {E : Env}
/-- All blocks that there are, sealed. -/
def Ctx.all (w : World) : Ctx := ⟨w.os, w.tape, w.output, fun b => w.heap[b]?, fun _ => none⟩
theorem Ctx.all_rel (w : World) : RelH (Ctx.all w) [] w :=
  ⟨rfl, rfl, rfl, fun _ _ h => h, fun _ _ => rfl, fun k X h => by simp at h, fun k k' l l' X X' h => by simp at h⟩
theorem law_of {f : FuncId} {args : List AVal} (h : AC P f args [] (fun r _ => r = .v (.bool true))) {vs : Array Value} {w : World} (hv : RelCs (Ctx.all w) args vs.toList) :
    Calls P f vs w fun e w' => e = .returned (.bool true) ∧ Below w.heap.size w w' := by
  have := h.2 (Ctx.all w) vs.toList w hv (Ctx.all_rel w)
  refine this.mono ?_
  rintro e w' ⟨c', r, v, H', he, rfl, hr, hh, rfl⟩
  have hb : ∀ b, b < w.heap.size → w'.heap[b]? = w.heap[b]? := fun b hb => by
    have h1 : (Ctx.all w).sealed b = some w.heap[b] := by simp [Ctx.all, hb]
    rw [hh.sealed b _ (he.sealed b _ h1)]; simp [hb]
  have hsz : w.heap.size ≤ w'.heap.size := by
    rcases Nat.lt_or_ge w'.heap.size w.heap.size with h1 | h1
    · have := hb w'.heap.size h1
      simp [h1] at this
    · exact h1
  refine ⟨by rw [hr.v_inv], hh.os.trans he.os, hh.tape.trans he.tape, hh.output.trans he.output, hsz, hb⟩
/-! ### Arguments, read -/
/-- What the type's values open to. -/
def Opn (P : Program) (t : TypeId) (A : AVal → Prop) : Prop :=
  ∀ {H : Type} {enc : TypeId × Value → H} {W : World} {base : Nat} {v : Value} {d : DataW H} {ps : List MemPlace},
    Value.okWide P W .any base t v → DataW.Trod enc P W 0 (fun _ => true) true t v d ps → ∃ a, RelV (Ctx.all W) a v ∧ A a
def wfI (k : IntKind) (n : Int) : Prop := (Lit.int k n).wf = true
/-- An element's range. -/
def ETy.wf : (e : ETy) → e.T → Prop
  | .int k, n => wfI k n
  | .bool, _ => True
  | .str, s => s.size ≤ maxLen
  | .pt, p => wfI .i64 p.1 ∧ wfI .i64 p.2
  | .sli k, l => l.length ≤ maxLen ∧ ∀ n ∈ l, wfI k n
  | .slb, l => l.length ≤ maxLen
  | .own _, _ => False
  | .mix _, _ => False
  | .st, p => (wfI .i64 p.1.1 ∧ wfI .i64 p.1.2) ∧ wfI .i64 p.2
/-- Elements of this type read as that. -/
def ElemIs (P : Program) (e : ETy) (t : TypeId) : Prop :=
  P.cellsOf t = e.sz ∧ ∀ {H : Type} {enc : TypeId × Value → H} {W : World} {fuel : Nat} {cs : List Value} {x : DataW H × List MemPlace},
    DataW.trod enc P W 0 (fun _ => true) true fuel t cs = some x → cs.length = e.sz → ∃ y : e.T, e.wf y ∧ ∀ j, j < e.sz → RelV (Ctx.all W) ((e.enc y).getD j .junk) (cs.getD j undef)
theorem ElemIs.int {t : TypeId} {k : IntKind} (hc : P.cellsOf t = 1) (ht : P.underlying t = some (.int k)) : ElemIs P (.int k) t := by
  refine ⟨hc, fun {H enc W fuel cs x} h hl => ?_⟩
  obtain ⟨n, rfl, rfl, hw⟩ := DataW.trod_int ht h
  refine ⟨n, hw, fun j hj => ?_⟩
  have : j = 0 := by simpa [ETy.sz] using hj
  subst this
  exact .v _
theorem ElemIs.str {t : TypeId} (hc : P.cellsOf t = 1) (ht : P.underlying t = some .string) : ElemIs P .str t := by
  refine ⟨hc, fun {H enc W fuel cs x} h hl => ?_⟩
  obtain ⟨s, rfl, rfl, hw⟩ := DataW.trod_string ht h
  refine ⟨s, hw, fun j hj => ?_⟩
  have : j = 0 := by simpa [ETy.sz] using hj
  subst this
  exact .v _
theorem ElemIs.bool {t : TypeId} (hc : P.cellsOf t = 1) (ht : P.underlying t = some .bool) : ElemIs P .bool t := by
  refine ⟨hc, fun {H enc W fuel cs x} h hl => ?_⟩
  obtain ⟨s, rfl, rfl⟩ := DataW.trod_bool ht h
  refine ⟨s, trivial, fun j hj => ?_⟩
  have : j = 0 := by simpa [ETy.sz] using hj
  subst this
  exact .v _
/-- A pair of integers by their cells. -/
theorem trod_pt {t : TypeId} {f0 f1 : Field} {k0 k1 : IntKind} (ht : P.underlying t = some (.struct #[f0, f1])) (h0 : P.underlying f0.type = some (.int k0)) (h1 : P.underlying f1.type = some (.int k1))
    (c0 : P.cellsOf f0.type = 1) (c1 : P.cellsOf f1.type = 1) (o0 : f0.offset = 0) (o1 : f1.offset = 1) (hc : P.cellsOf t = 2)
    {H : Type} {enc : TypeId × Value → H} {W : World} {base : Nat} {sp : Nat → Bool} {held : Bool} {fuel : Nat} {cs : List Value} {x : DataW H × List MemPlace}
    (h : DataW.trod enc P W base sp held fuel t cs = some x) : ∃ a b, cs = [.int k0 a, .int k1 b] ∧ wfI k0 a ∧ wfI k1 b := by
  obtain ⟨y0, y1, n, rfl, hl, g0, g1⟩ := trod_struct2 ht h
  rw [hc] at hl
  rw [c0, o0] at g0
  rw [c1, o1] at g1
  match cs, hl with
  | [u, v], _ =>
    obtain ⟨a, e1, _, w1⟩ := DataW.trod_int h0 g0
    obtain ⟨b, e2, _, w2⟩ := DataW.trod_int h1 g1
    simp at e1 e2
    exact ⟨a, b, by rw [e1, e2], w1, w2⟩
theorem ElemIs.pt {t : TypeId} {f0 f1 : Field} (ht : P.underlying t = some (.struct #[f0, f1])) (h0 : P.underlying f0.type = some (.int .i64)) (h1 : P.underlying f1.type = some (.int .i64))
    (c0 : P.cellsOf f0.type = 1) (c1 : P.cellsOf f1.type = 1) (o0 : f0.offset = 0) (o1 : f1.offset = 1) (hc : P.cellsOf t = 2) : ElemIs P .pt t := by
  refine ⟨hc, fun {H enc W fuel cs x} h hl => ?_⟩
  obtain ⟨a, b, rfl, w1, w2⟩ := trod_pt ht h0 h1 c0 c1 o0 o1 hc h
  refine ⟨(a, b), ⟨w1, w2⟩, fun j hj => ?_⟩
  have hj' : j < 2 := hj
  match j, hj' with
  | 0, _ => exact .v _
  | 1, _ => exact .v _
theorem cells?_get {w : World} {a : Addr} : ∀ {n : Nat} {cs : List Value}, w.cells? 0 a n = some cs → cs.length = n ∧ ∀ j, j < n → w.cell? (a.add j) = some (cs.getD j undef) := by
  intro n cs h
  unfold World.cells? at h
  rw [if_pos (Nat.zero_le _)] at h
  have hl : cs.length = n := by simpa using mapM_some_length h
  refine ⟨hl, fun j hj => ?_⟩
  have := mapM_some_get h j j (by simp [hj])
  rw [this]
  simp [List.getD, hl, hj]
theorem slice_rd {t et : TypeId} {e : ETy} (ht : P.underlying t = some (.slice et)) (he : ElemIs P e et)
    {H : Type} {enc : TypeId × Value → H} {W : World} {fuel : Nat} {v : Value} {x : DataW H × List MemPlace} (h : DataW.trod enc P W 0 (fun _ => true) true fuel t [v] = some x) :
    ∃ xs : List e.T, RelV (Ctx.all W) (.rd e xs) v ∧ xs.length ≤ maxLen ∧ ∀ y ∈ xs, e.wf y := by
  obtain ⟨hc, hel⟩ := he
  rcases DataW.trod_slice ht h with ⟨hcs, _⟩ | ⟨a, len, cap, elems, rest, n, _, hcs, rfl, _, hle, hm, hlen, hget, _, _⟩
  · simp at hcs; subst hcs
    exact ⟨[], .rd (fun _ _ => undef) rfl (Nat.le_refl _) (fun h => absurd h (by omega)) (fun i j h => absurd h (by omega)), Nat.zero_le _, fun y h => by simp at h⟩
  · simp at hcs; subst hcs
    rw [hc] at hget
    have each : ∀ i, i < len → ∃ cs : List Value, cs.length = e.sz ∧ (∀ j, j < e.sz → W.cell? ((a.add (i * e.sz)).add j) = some (cs.getD j undef)) ∧ ∃ y : e.T, e.wf y ∧ ∀ j, j < e.sz → RelV (Ctx.all W) ((e.enc y).getD j .junk) (cs.getD j undef) := fun i hi => by
      have h1 := hget i hi
      have h2 : elems[i]? = some (elems[i]'(by omega)) := List.getElem?_eq_getElem (by omega)
      rw [h2, Option.bind_eq_some_iff] at h1
      obtain ⟨cs, h3, h4⟩ := h1
      obtain ⟨g1, g2⟩ := cells?_get h3
      exact ⟨cs, g1, g2, hel h4 g1⟩
    have hch : ∃ F : Nat → List Value, ∃ Y : Nat → e.T, ∀ i, i < len → (∀ j, j < e.sz → W.cell? ((a.add (i * e.sz)).add j) = some ((F i).getD j undef)) ∧ e.wf (Y i) ∧ ∀ j, j < e.sz → RelV (Ctx.all W) ((e.enc (Y i)).getD j .junk) ((F i).getD j undef) := by
      refine ⟨fun i => if h : i < len then (each i h).choose else [], fun i => if h : i < len then (each i h).choose_spec.2.2.choose else e.d, fun i hi => ?_⟩
      simp only [dif_pos hi]
      exact ⟨(each i hi).choose_spec.2.1, (each i hi).choose_spec.2.2.choose_spec.1, (each i hi).choose_spec.2.2.choose_spec.2⟩
    obtain ⟨F, Y, hFY⟩ := hch
    refine ⟨(List.range len).map Y, .rd (fun i j => (F i).getD j undef) (by simp) hle (fun hp => ?_) (fun i j hi hj => ?_), by simp; omega, fun y hy => ?_⟩
    · have h0 := (hFY 0 hp).1 0 e.sz_pos
      simp only [Nat.zero_mul] at h0
      have hadd : ∀ a : Addr, a.add 0 = a := fun a => by simp [Addr.add]
      rw [hadd, hadd] at h0
      unfold World.cell? at h0
      split at h0
      · rename_i cells T fr hb
        obtain ⟨b, o, sp⟩ := a
        cases sp with
        | some s => simp at h0
        | none =>
          refine ⟨b, o, cells, T, fr, rfl, hb, fun i j hi hj => ?_⟩
          have h1 := (hFY i hi).1 j hj
          have e1 : ((⟨b, o, none⟩ : Addr).add (i * e.sz)).add j = ⟨b, o + i * e.sz + j, none⟩ := by
            unfold Addr.add
            split <;> split <;> simp_all
          rw [e1] at h1
          unfold World.cell? at h1
          simp only at hb
          simp only [hb] at h1
          simpa using h1
      · cases h0
    · have : ((List.range len).map Y).getD i e.d = Y i := by simp [List.getD, hi]
      rw [this]; exact (hFY i hi).2.2 j hj
    · obtain ⟨i, hi, rfl⟩ := List.mem_map.1 hy
      exact (hFY i (List.mem_range.1 hi)).2.1
theorem ElemIs.sli {t et : TypeId} {k : IntKind} (hc : P.cellsOf t = 1) (ht : P.underlying t = some (.slice et)) (he : ElemIs P (.int k) et) : ElemIs P (.sli k) t := by
  refine ⟨hc, fun {H enc W fuel cs x} h hl => ?_⟩
  match cs, hl with
  | [v], _ =>
    obtain ⟨xs, h1, h2, h3⟩ := slice_rd ht he h
    refine ⟨xs, ⟨h2, h3⟩, fun j hj => ?_⟩
    have : j = 0 := by simpa [ETy.sz] using hj
    subst this
    exact h1
theorem ElemIs.slb {t et : TypeId} (hc : P.cellsOf t = 1) (ht : P.underlying t = some (.slice et)) (he : ElemIs P .bool et) : ElemIs P .slb t := by
  refine ⟨hc, fun {H enc W fuel cs x} h hl => ?_⟩
  match cs, hl with
  | [v], _ =>
    obtain ⟨xs, h1, h2, h3⟩ := slice_rd ht he h
    refine ⟨xs, h2, fun j hj => ?_⟩
    have : j = 0 := by simpa [ETy.sz] using hj
    subst this
    exact h1
theorem rel_two {c : Ctx} {p q : AVal} {x y : Value} (h1 : RelV c p x) (h2 : RelV c q y) : RelV c (.agg [p, q]) (.agg #[x, y]) :=
  RelV.agg (vs := [x, y]) rfl (fun i hi => by
    have hi' : i < 2 := hi
    match i, hi' with
    | 0, _ => exact h1
    | 1, _ => exact h2)
/-- A struct of two slices. -/
theorem opn_two {t te te' : TypeId} {e e' : ETy} {f0 f1 : Field} (ht : P.underlying t = some (.struct #[f0, f1])) (h0 : P.underlying f0.type = some (.slice te)) (h1 : P.underlying f1.type = some (.slice te')) (he : ElemIs P e te) (he' : ElemIs P e' te')
    (c0 : P.cellsOf f0.type = 1) (c1 : P.cellsOf f1.type = 1) (o0 : f0.offset = 0) (o1 : f1.offset = 1) (hc : P.cellsOf t = 2) :
    Opn P t (fun a => ∃ (xs : List e.T) (ys : List e'.T), xs.length ≤ maxLen ∧ ys.length ≤ maxLen ∧ (∀ y ∈ xs, e.wf y) ∧ (∀ y ∈ ys, e'.wf y) ∧ a = .agg [.rd e xs, .rd e' ys]) := by
  intro H enc W base v d ps hv hd
  obtain ⟨fuel, hf⟩ := hd
  unfold Value.okWide at hv
  rw [ht] at hv
  obtain ⟨cs, rfl, _, _⟩ := hv
  obtain ⟨y0, y1, n, _, hl, g0, g1⟩ := trod_struct2 ht hf
  rw [hc] at hl
  rw [c0, o0] at g0
  rw [c1, o1] at g1
  have hcs : ∃ u v, (Value.agg cs).cells.toList = [u, v] := by
    match h : (Value.agg cs).cells.toList, hl with
    | [u, v], _ => exact ⟨u, v, rfl⟩
  obtain ⟨u, v, hcs⟩ := hcs
  rw [hcs] at g0 g1
  obtain ⟨xs, r0, l0, w0⟩ := slice_rd h0 he g0
  obtain ⟨ys, r1, l1, w1⟩ := slice_rd h1 he' g1
  have : cs = #[u, v] := Array.ext' hcs
  subst this
  exact ⟨_, rel_two r0 r1, xs, ys, l0, l1, w0, w1, rfl⟩
def OpnAll (P : Program) : List TypeId → List (AVal → Prop) → Prop
  | [], [] => True
  | t :: ts, A :: As => Opn P t A ∧ OpnAll P ts As
  | _, _ => False
def All2 : List (AVal → Prop) → List AVal → Prop
  | [], [] => True
  | A :: As, a :: as => A a ∧ All2 As as
  | _, _ => False
theorem opn_all : ∀ {ts : List TypeId} {As : List (AVal → Prop)} (_ : OpnAll P ts As) {H : Type} {enc : TypeId × Value → H} {W : World} {base : Nat} {vs : List Value} {ds : List (DataW H)} {ps : List MemPlace}
    (_ : ∀ (j : Nat) t v, ts[j]? = some t → vs[j]? = some v → Value.okWide P W .any base t v) (_ : DataW.TrodAll enc P W 0 (fun _ => true) true ts vs ds ps), ∃ as, RelCs (Ctx.all W) as vs ∧ All2 As as
  | [], [], _, _, _, _, _, vs, ds, ps, _, h => by
    obtain ⟨rfl, _, _⟩ := trodAll_nil h
    exact ⟨[], ⟨rfl, fun i hi => by simp at hi⟩, trivial⟩
  | [], _ :: _, h, _, _, _, _, _, _, _, _, _ => h.elim
  | _ :: _, [], h, _, _, _, _, _, _, _, _, _ => h.elim
  | t :: ts, A :: As, ho, _, _, W, base, vs, ds, ps, hv, h => by
    obtain ⟨v, vs', d, ds', p, q, rfl, rfl, rfl, h1, h2⟩ := trodAll_cons h
    obtain ⟨a, g1, g2⟩ := ho.1 (hv 0 t v rfl rfl) h1
    obtain ⟨as, g3, g4⟩ := opn_all ho.2 (fun j t v hj hv' => hv (j + 1) t v (by simpa using hj) (by simpa using hv')) h2
    exact ⟨a :: as, by have := RelCs.append (c := Ctx.all W) (as := [a]) (us := [v]) ⟨rfl, fun i hi => (by
        have h0 : i = 0 := by simpa using hi
        subst h0; exact g1)⟩ g3; simpa using this, g2, g4⟩
theorem tlen {base : Nat} {sp : Nat → Bool} {hd : Bool} {W : World} {H : Type} {enc : TypeId × Value → H} : ∀ {ts : List TypeId} {vs : List Value} {ds : List (DataW H)} {ps : List MemPlace}, DataW.TrodAll enc P W base sp hd ts vs ds ps → ds.length = ts.length
  | [], vs, ds, ps, h => by obtain ⟨_, rfl, _⟩ := trodAll_nil h; rfl
  | t :: ts, vs, ds, ps, h => by
    obtain ⟨v, vs', d, ds', p, q, rfl, rfl, rfl, h1, h2⟩ := trodAll_cons h
    simp [tlen h2]
theorem trodAll_stays (hl : laidOutB P = true) {W W' : World} (hb : Below W.heap.size W W') {H : Type} {enc : TypeId × Value → H} {sp : Nat → Bool} : ∀ {ts : List TypeId} (_ : ∀ t ∈ ts, P.readableRec t = true ∧ t < P.types.size) {vs : List Value} {ds : List (DataW H)} {ps : List MemPlace}
    (_ : ∀ x ∈ ps, x.block < W.heap.size) (_ : ∀ x ∈ ps, sp x.block = true) (_ : DataW.TrodAll enc P W 0 (fun _ => true) true ts vs ds ps), DataW.TrodAll enc P W' 0 sp true ts vs ds ps
  | [], _, vs, ds, ps, _, _, h => by obtain ⟨rfl, rfl, rfl⟩ := trodAll_nil h; exact trodAll_mk0
  | t :: ts, hr, vs, ds, ps, hlt, hsp, h => by
    obtain ⟨v, vs', d, ds', p, q, rfl, rfl, rfl, h1, h2⟩ := trodAll_cons h
    have g := hr t (by simp)
    exact ⟨p, q, (WideElems.Trod_stays hl g.1 g.2 h1 (fun x hx => hb.same (hlt x (by simp [hx]))) (fun x hx => hsp x (by simp [hx]))),
      (trodAll_stays hl hb (fun t ht => hr t (by simp [ht])) (fun x hx => hlt x (by simp [hx])) (fun x hx => hsp x (by simp [hx])) h2), rfl⟩
theorem law_post {fn : Func} {s : ChangeSpec} {apart fresh handsOn again : Bool} {tb : TypeId} (hvars : s.vars = []) (hres : fn.resultTypes = #[tb]) (htb : P.underlying tb = some .bool)
    (hspec : ∀ (H : Type) (ds : List (DataW H)), ds.length = fn.params.toList.length → s.fn H ds = { results := [.lit (.bool true)], args := ds })
    (hl : laidOutB P = true) (hr : ∀ t ∈ fn.params.toList, P.readableRec t = true ∧ t < P.types.size)
    {H : Type} {enc : TypeId × Value → H} {W W' : World} {args : Array Value} {ds gs : List (DataW H)} {before : List MemPlace}
    (hW : DataW.Whole enc P fn.params.toList s.vars apart W args.toList ds gs before) (hb : Below W.heap.size W W') : s.post enc P fn apart fresh handsOn again W args (.bool true) W' := by
  have hlt := hW.lt
  have hW0 := hW
  obtain ⟨p, q, hA, hV, rfl, hz, hn⟩ := hW
  rw [hvars] at hV
  obtain ⟨rfl, rfl⟩ := trodVars_none hV
  have hlen : ds.length = fn.params.toList.length := (tlen hA)
  have hfn : s.fn H (ds ++ []) = { results := [.lit (.bool true)], args := ds } := by rw [List.append_nil]; exact hspec H ds hlen
  have hlt' : ∀ x ∈ p, x.block < W.heap.size := fun x hx => hlt x (by simp [hx])
  have hres' : ∀ (b : Nat) (sp : Nat → Bool) (hd : Bool), DataW.TrodAll enc P W' b sp hd fn.resultTypes.toList ((Value.bool true).resultList fn.resultTypes.size) [.lit (.bool true)] [] := fun b sp hd => by
    rw [hres]
    exact ⟨[], [], shut_bool htb _, rfl, rfl⟩
  have hok : ∀ (j : Nat) (t : TypeId) (r : Value), fn.resultTypes[j]? = some t → ((Value.bool true).resultList fn.resultTypes.size)[j]? = some r → Value.okWide P W' .any 0 t r := ok_one hres rfl (okWide_bool_mk htb _)
  refine ⟨ds, [], p ++ [], [], p, [], hW0, ?_, ?_, ?_, hb.frame _, fun _ => ⟨hok, ds.cons (.lit (.bool true)), [], p ++ [], ⟨p, [], ?_, ?_, rfl, ?_, ?_⟩, fun x hx _ => hx⟩⟩
  · rw [hfn]; exact hres' _ _ _
  · rw [hfn]; exact trodAll_stays hl hb hr hlt' (fun x hx => by simpa using hlt' x hx) hA
  · rw [hfn, hvars]; rfl
  · have := trodAll_append (trodAll_stays hl hb hr hlt' (sp := fun _ => true) (fun _ _ => rfl) hA) (hres' 0 (fun _ => true) true)
    simpa using this
  · rw [hvars]; rfl
  · intro b off hx
    rw [hb.frozen (p := ⟨b, off, none⟩) (hlt _ hx)]
    exact hz b off hx
  · exact hn
theorem law_contract {f : FuncId} {fn : Func} {s : ChangeSpec} {apart fresh handsOn again : Bool} {tb : TypeId} (hvars : s.vars = []) (hres : fn.resultTypes = #[tb]) (htb : P.underlying tb = some .bool)
    (hspec : ∀ (H : Type) (ds : List (DataW H)), ds.length = fn.params.toList.length → s.fn H ds = { results := [.lit (.bool true)], args := ds })
    (hl : laidOutB P = true) (hr : ∀ t ∈ fn.params.toList, P.readableRec t = true ∧ t < P.types.size) {As : List (AVal → Prop)} (hopn : OpnAll P fn.params.toList As)
    (hac : ∀ as, All2 As as → AC P f as [] (fun r _ => r = .v (.bool true)))
    {H : Type} {enc : TypeId × Value → H} {W : World} {base : Nat} {args : Array Value} {ds gs : List (DataW H)} {before : List MemPlace}
    (hval : ∀ (j : Nat) t v, fn.params[j]? = some t → args[j]? = some v → Value.okWide P W .any base t v)
    (hW : DataW.Whole enc P fn.params.toList s.vars apart W args.toList ds gs before) : Calls P f args W fun e W' => ∃ v, e = .returned v ∧ s.post enc P fn apart fresh handsOn again W args v W' := by
  obtain ⟨as, h1, h2⟩ := opn_all hopn (base := base) (fun j t v hj hv => hval j t v (by simpa using hj) (by simpa using hv)) hW.choose_spec.choose_spec.1
  refine (law_of (hac as h2) h1).mono ?_
  rintro e W' ⟨rfl, hb⟩
  exact ⟨_, rfl, law_post hvars hres htb hspec hl hr hW hb⟩
end Go.Eng
end
section
set_option linter.unusedSimpArgs false
set_option linter.unusedVariables false
namespace Go.Eng
variable {P : Program} {E : Env}
theorem get_loc {N : Nat} {s : List (Nat × AVal)} {b l : List ABox} {j : Nat} : St.get ⟨N, s, b, l⟩ (b.length + j) = l.getD j .dead := by
  simp only [St.get, List.getD]
  rw [List.getElem?_append_right (by omega), Nat.add_sub_cancel_left]
theorem setBox_loc {N : Nat} {s : List (Nat × AVal)} {b l : List ABox} {j : Nat} {X : ABox} {K : List ABox → List ABox → Prop} : St.setBox ⟨N, s, b, l⟩ (b.length + j) X K = K b (l.set j X) := by
  have h1 : ¬ b.length + j < b.length := by omega
  simp only [St.setBox]
  rw [if_neg h1, Nat.add_sub_cancel_left]
theorem next_eq {N : Nat} {s : List (Nat × AVal)} {b l : List ABox} : St.next ⟨N, s, b, l⟩ = b.length + l.length := rfl
theorem getD_zero {α : Type} {x : α} {l : List α} {d : α} : (x :: l).getD 0 d = x := rfl
theorem getD_succ {α : Type} {x : α} {l : List α} {d : α} {n : Nat} : (x :: l).getD (n + 1) d = l.getD n d := rfl
/-- A call that leaves the boxes as they were. -/
theorem vCall_pure {f : FuncId} {args : List AVal} {N : Nat} {s : List (Nat × AVal)} {b l : List ABox} {x : AVal} {k : AVal → List ABox → List ABox → Prop}
    (h : AC P f args (b ++ l) (fun r H' => r = x ∧ H' = b ++ l)) (hk : k x b l) : vCall P (.fn f []) args ⟨N, s, b, l⟩ k := by
  show AC P f (args ++ []) (b ++ l) _
  rw [List.append_nil]
  exact h.mono fun r H' ⟨e1, e2⟩ => ⟨b, l, e2, rfl, e1 ▸ hk⟩
/-- A call that leaves new boxes. -/
theorem vCall_new {f : FuncId} {args : List AVal} {N : Nat} {s : List (Nat × AVal)} {b l new : List ABox} {x : AVal} {k : AVal → List ABox → List ABox → Prop}
    (h : AC P f args (b ++ l) (fun r H' => r = x ∧ H' = (b ++ l) ++ new)) (hk : k x b (l ++ new)) : vCall P (.fn f []) args ⟨N, s, b, l⟩ k := by
  show AC P f (args ++ []) (b ++ l) _
  rw [List.append_nil]
  exact h.mono fun r H' ⟨e1, e2⟩ => ⟨b, l ++ new, by rw [e2, List.append_assoc], rfl, e1 ▸ hk⟩
section
variable {n : Nat} {Q : Exit → St → Prop} {N : Nat} {sl : List (Nat × AVal)} {b l : List ABox}
end
theorem All2.cons {A : AVal → Prop} {As : List (AVal → Prop)} {l : List AVal} (h : All2 (A :: As) l) : ∃ a l', l = a :: l' ∧ A a ∧ All2 As l' := by
  cases l with
  | nil => exact h.elim
  | cons a l' => exact ⟨a, l', rfl, h.1, h.2⟩
theorem All2.nil {l : List AVal} (h : All2 [] l) : l = [] := by
  cases l with
  | nil => rfl
  | cons a l' => exact h.elim
/-! ### One operation after another -/
theorem vcL_nil {ops : List Oper} {st : St} {K : St → Prop} (h : K st) : vcL P E ops [] st K := h
theorem vcL_cons {ops : List Oper} {o : Oper} {rest : List Oper} {st : St} {K : St → Prop}
    (h : ∀ K' : St → Prop, (∀ st', vcL P E ops rest st' K → K' st') → vGuard ops o.guard st
      (dstOk st.N o.dst ∧ vcOp P E o.op st (fun r b l => K' (({ st with base := b, loc := l } : St).put o.dst r))) (dstOk st.N o.dst ∧ K' (st.put o.dst (.v undef)))) : vcL P E ops (o :: rest) st K :=
  h _ (fun _ h => h)
/-- No numbers in it. -/
inductive Plain : AVal → Prop where
  | v (x : Value) : Plain (.v x)
  | junk : Plain .junk
  | int (k : IntKind) (xs : List Int) : Plain (.rd (.int k) xs)
  | pt (xs : List (Int × Int)) : Plain (.rd .pt xs)
  | agg {cs : List AVal} (h : ∀ x ∈ cs, Plain x) : Plain (.agg cs)
  | tup {cs : List AVal} (h : ∀ x ∈ cs, Plain x) : Plain (.tup cs)
theorem Plain.ids {n : Nat} {a : AVal} (h : Plain a) : IdsLt n a := by
  have get : ∀ {cs : List AVal} {i : Nat}, i < cs.length → cs.getD i .junk ∈ cs := fun {cs i} hi => by
    simp only [List.getD, List.getElem?_eq_getElem hi, Option.getD_some]
    exact List.getElem_mem hi
  induction h with
  | v x => exact .v x
  | junk => exact .junk
  | int k xs => exact .rd (fun i j hi hj => by
      have : j = 0 := by simpa [ETy.sz] using hj
      subst this; exact .v _)
  | pt xs => exact .rd (fun i j hi hj => by
      have hj' : j < 2 := hj
      match j, hj' with
      | 0, _ => exact .v _
      | 1, _ => exact .v _)
  | agg h ih => exact .agg (fun i hi => ih _ (get hi))
  | tup h ih => exact .tup (fun i hi => ih _ (get hi))
/-! ### A box of the call's own, sealed: from here on it is a list -/
section
variable (k : Nat) (e : ETy) (xs : List e.T)
inductive SealV : AVal → AVal → Prop where
  | same (a : AVal) : SealV a a
  | junk (a : AVal) : SealV .junk a
  | sl {off m : Nat} (h : off + m ≤ xs.length) : SealV (.rd e ((xs.drop off).take m)) (.sl e.sz k off m)
  | agg {cs cs' : List AVal} (hl : cs'.length = cs.length) (h : ∀ i, i < cs.length → SealV (cs'.getD i .junk) (cs.getD i .junk)) : SealV (.agg cs') (.agg cs)
  | tup {cs cs' : List AVal} (hl : cs'.length = cs.length) (h : ∀ i, i < cs.length → SealV (cs'.getD i .junk) (cs.getD i .junk)) : SealV (.tup cs') (.tup cs)
inductive SealB : ABox → ABox → Prop where
  | dead (X : ABox) : SealB .dead X
  | same (X : ABox) : SealB X X
  | box {ro : Bool} {cs cs' : List AVal} (hl : cs'.length = cs.length) (h : ∀ i, i < cs.length → SealV k e xs (cs'.getD i .junk) (cs.getD i .junk)) : SealB (.box ro cs') (.box ro cs)
  | row {ro : Bool} {e' : ETy} {ys ys' : List e'.T} (hl : ys'.length = ys.length) (h : ∀ i j, i < ys.length → j < e'.sz → SealV k e xs ((e'.enc (ys'.getD i e'.d)).getD j .junk) ((e'.enc (ys.getD i e'.d)).getD j .junk)) : SealB (.row ro e' ys') (.row ro e' ys)
def SealL : List ABox → List ABox → Prop
  | [], [] => True
  | X' :: r', X :: r => SealB k e xs X' X ∧ SealL r' r
  | _, _ => False
def SealS (old : List (Nat × AVal)) : List (Nat × AVal) → Prop
  | [] => True
  | (t, a) :: r => SealV k e xs a (lk old t) ∧ SealS old r
end
theorem SealS.spec {k : Nat} {e : ETy} {xs : List e.T} {old : List (Nat × AVal)} : ∀ {sl : List (Nat × AVal)}, SealS k e xs old sl → ∀ t, SealV k e xs (lk sl t) (lk old t)
  | [], _, t => .junk _
  | (u, a) :: r, h, t => by
    rw [lk_put]
    by_cases eq : u = t
    · subst eq; rw [if_pos rfl]; exact h.1
    · rw [if_neg eq]; exact SealS.spec h.2 t
theorem SealL.spec {k : Nat} {e : ETy} {xs : List e.T} : ∀ {L' L : List ABox}, SealL k e xs L' L → L'.length = L.length ∧ ∀ i, i < L.length → SealB k e xs (L'.getD i .dead) (L.getD i .dead)
  | [], [], _ => ⟨rfl, fun i h => by simp at h⟩
  | [], _ :: _, h => h.elim
  | _ :: _, [], h => h.elim
  | X' :: r', X :: r, h => by
    obtain ⟨g1, g2⟩ := SealL.spec h.2
    refine ⟨by simp [g1], fun i hi => ?_⟩
    cases i with
    | zero => exact h.1
    | succ i => exact g2 i (by simpa using hi)
theorem SealB.live {k : Nat} {e : ETy} {xs : List e.T} {X' X : ABox} (h : SealB k e xs X' X) (hl : X'.live = true) : X.live = true := by
  cases h with
  | dead => cases hl
  | same => exact hl
  | box => rfl
  | row => rfl
theorem RelV.sealIt {k : Nat} {e : ETy} {xs : List e.T} {c c' : Ctx} {l : Loc} {cells : Array Value} {T : TypeId} {fr : Nat × Nat} (he : Ext c c') (hk : c.loc k = some l) (hs : c'.sealed l.blk = some (.cells cells T fr))
    (hx : ∀ i j, i < xs.length → j < e.sz → ∃ u, cells[l.off + i * e.sz + j]? = some u ∧ RelV c ((e.enc (xs.getD i e.d)).getD j .junk) u) {a' a : AVal} (h : SealV k e xs a' a) : ∀ {v : Value}, RelV c a v → RelV c' a' v := by
  induction h with
  | same a => intro v hv; exact hv.ext he
  | junk a => intro v hv; exact .junk v
  | @sl off m hle =>
    intro v hv
    cases hv with
    | @sl _ _ _ _ b o l2 hl hn ha =>
      rw [hk] at hl; cases hl
      have hlen : ((xs.drop off).take m).length = m := by simp; omega
      refine .rd (fun i j => cells.getD (l.off + (off + i) * e.sz + j) undef) hlen (by omega) (fun hp => ?_) (fun i j hi hj => ?_)
      · obtain ⟨rfl, rfl⟩ := ha (by omega)
        refine ⟨l.blk, l.off + off * e.sz, cells, T, fr, rfl, hs, fun i j hi hj => ?_⟩
        obtain ⟨u, hu, _⟩ := hx (off + i) j (by omega) hj
        have e1 : l.off + off * e.sz + i * e.sz + j = l.off + (off + i) * e.sz + j := by rw [Nat.add_mul]; omega
        rw [e1, hu]
        simp only [Array.getD_eq_getD_getElem?]
        rw [hu]; rfl
      · obtain ⟨u, hu, hr⟩ := hx (off + i) j (by omega) hj
        have e2 : ((xs.drop off).take m).getD i e.d = xs.getD (off + i) e.d := by
          simp [List.getD, hi]
        rw [e2]
        have e3 : cells.getD (l.off + (off + i) * e.sz + j) undef = u := by
          simp only [Array.getD_eq_getD_getElem?]
          rw [hu]; rfl
        rw [e3]; exact hr.ext he
  | agg hl h ih => intro v hv; cases hv with | agg hl' h' => exact .agg (hl.trans hl') (fun i hi => ih i (by omega) (h' i (by omega)))
  | tup hl h ih => intro v hv; cases hv with | tup hl' h' => exact .tup (hl.trans hl') (fun i hi => ih i (by omega) (h' i (by omega)))
theorem RelSt.seal {c : Ctx} {a : Act} {w : World} {N : Nat} {sl sl' : List (Nat × AVal)} {b loc loc' : List ABox} (j : Nat) {e : ETy} {xs : List e.T} (hj : j < loc.length) (hX : loc.getD j .dead = .row false e xs) (hd : loc'.getD j .dead = .dead)
    (hL : SealL (b.length + j) e xs loc' loc) (hS : SealS (b.length + j) e xs sl sl') 
    (hst : RelSt b.length c ⟨N, sl, b, loc⟩ a w) : ∃ c', Ext c c' ∧ RelSt b.length c' ⟨N, sl', b, loc'⟩ a w := by
  have hh := hst.heap
  have hg : (b ++ loc)[b.length + j]? = some (.row false e xs) := by
    rw [List.getElem?_append_right (by omega), Nat.add_sub_cancel_left]
    simp only [List.getD] at hX
    rw [List.getElem?_eq_getElem hj] at hX ⊢
    simpa using hX
  obtain ⟨l, hl, cells, T, h1, h2, h3, h4, h5⟩ := hh.box _ _ hg rfl
  have h2' : c.sealed l.blk = none := h2
  let c' : Ctx := { c with sealed := fun q => if q = l.blk then some (.cells cells T (0, 0)) else c.sealed q }
  have he : Ext c c' := ⟨⟨rfl, rfl, rfl, fun q o hq => by
    show (if q = l.blk then _ else c.sealed q) = some o
    by_cases eq : q = l.blk
    · rw [eq, h2'] at hq; cases hq
    · rw [if_neg eq]; exact hq⟩, fun _ _ h => h⟩
  have hs : c'.sealed l.blk = some (.cells cells T (0, 0)) := if_pos rfl
  have hval : ∀ {a' a : AVal} {v : Value}, SealV (b.length + j) e xs a' a → RelV c a v → RelV c' a' v := fun h hv => RelV.sealIt he hl hs h5 h hv
  obtain ⟨hlen, hspec⟩ := hL.spec
  have hother : ∀ (q : Nat) (X : ABox) (l' : Loc), (b ++ loc)[q]? = some X → X.live = true → q ≠ b.length + j → c.loc q = some l' → c'.sealed l'.blk = c.sealed l'.blk := fun q X l' hq hX' hne hl' => by
    refine if_neg fun eq => hne ?_
    exact hh.inj q (b.length + j) l' l X _ hq hX' hg rfl hl' hl eq
  have key : ∀ (q : Nat) (X' : ABox), (b ++ loc')[q]? = some X' → X'.live = true → ∃ X, (b ++ loc)[q]? = some X ∧ X.live = true ∧ q ≠ b.length + j ∧ (X' = X ∨ SealB (b.length + j) e xs X' X) := fun q X' hq hX' => by
    rcases Nat.lt_or_ge q b.length with g1 | g1
    · rw [List.getElem?_append_left g1] at hq
      exact ⟨X', by rw [List.getElem?_append_left g1]; exact hq, hX', by omega, .inl rfl⟩
    · rw [List.getElem?_append_right g1] at hq
      have hq' : q - b.length < loc.length := by rw [← hlen]; exact (List.getElem?_eq_some_iff.1 hq).1
      have hb := hspec _ hq'
      rw [show loc'.getD (q - b.length) .dead = X' by simp [List.getD, hq]] at hb
      refine ⟨_, by rw [List.getElem?_append_right g1, List.getElem?_eq_getElem hq'], ?_, fun eq => ?_, .inr ?_⟩
      · have := hb.live hX'
        rwa [List.getD, List.getElem?_eq_getElem hq'] at this
      · have : q - b.length = j := by omega
        rw [this] at hq
        rw [List.getD, hq] at hd
        simp at hd; rw [hd] at hX'; cases hX'
      · rwa [List.getD, List.getElem?_eq_getElem hq'] at hb
  refine ⟨c', he, hst.defers, hst.size, fun t => hval (hS.spec t) (hst.slots t), ⟨hh.os, hh.tape, hh.output, fun q o hq => ?_, fun q hq => ?_, fun q X' hq hX' => ?_, ?_⟩, rfl⟩
  · by_cases eq : q = l.blk
    · rw [eq, hs] at hq; cases hq; rw [eq]; exact h1
    · exact hh.sealed q o (by have := hq; rwa [show c'.sealed q = c.sealed q from if_neg eq] at this)
  · exact hh.dom q (by simp at hq ⊢; omega)
  · obtain ⟨X, g1, g2, g3, g4⟩ := key q X' hq hX'
    obtain ⟨l', hl', hB⟩ := hh.box q X g1 g2
    have hsame := hother q X l' g1 g2 g3 hl'
    refine ⟨l', hl', ?_⟩
    have hcarry : RelB c' w l' X := hB.carry he (fun _ => rfl) (fun _ => hsame)
    rcases g4 with rfl | g4
    · exact hcarry
    · cases g4 with
      | dead => cases hX'
      | same => exact hcarry
      | box hl2 hv =>
        obtain ⟨cells', T', k1, k2, k3⟩ := hB
        refine ⟨cells', T', k1, ?_, fun i hi => ?_⟩
        · unfold modeOk at *; rw [hsame]; exact k2
        · obtain ⟨u, hu, hr⟩ := k3 i (by omega); exact ⟨u, hu, hval (hv i (by omega)) hr⟩
      | row hl2 hv =>
        obtain ⟨cells', T', k1, k2, k3, k4, k5⟩ := hB
        refine ⟨cells', T', k1, ?_, k3, by omega, fun i j hi hj => ?_⟩
        · unfold modeOk at *; rw [hsame]; exact k2
        · obtain ⟨u, hu, hr⟩ := k5 i j (by omega) hj; exact ⟨u, hu, hval (hv i j (by omega) hj) hr⟩
  · intro q q' l1 l2 X1 X2 hq hX1 hq' hX2 hl1 hl2 hb
    obtain ⟨Y1, g1, g2, _⟩ := key q X1 hq hX1
    obtain ⟨Y2, g1', g2', _⟩ := key q' X2 hq' hX2
    exact hh.inj q q' l1 l2 Y1 Y2 g1 g2 g1' g2' hl1 hl2 hb
theorem Weak.seal {n : Nat} {N : Nat} {sl sl' : List (Nat × AVal)} {b loc loc' : List ABox} (j : Nat) {e : ETy} {xs : List e.T} (hj : j < loc.length) (hX : loc.getD j .dead = .row false e xs) (hd : loc'.getD j .dead = .dead)
    (hL : SealL (b.length + j) e xs loc' loc) (hS : SealS (b.length + j) e xs sl sl') : Weak n ⟨N, sl, b, loc⟩ ⟨N, sl', b, loc'⟩ := fun c a w hst => by
  obtain ⟨c', he, hr⟩ := hst.rel.seal j hj hX hd hL hS
  exact ⟨c', he.toB n, hst.le, hr⟩
end Go.Eng
end

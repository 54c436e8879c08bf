/- The engine, part A: abstract values, boxes of memory, how they stand to the machine's values and heap. -/
import Derived.WalkKit
set_option linter.unusedSimpArgs false
set_option linter.unusedVariables false
namespace Go.Eng

/-- The kinds of elements that a slice may have. -/
inductive ETy where
  | int (k : IntKind)
  | bool
  | str
  | pt
  | sli (k : IntKind)
  | slb
  | own (k : IntKind)
  | mix (k : IntKind)
  deriving DecidableEq

@[reducible] def ETy.T : ETy → Type
  | .int _ => Int
  | .bool => Bool
  | .str => ByteArray
  | .pt => Int × Int
  | .sli _ => List Int
  | .slb => List Bool
  | .own _ => Option (Nat × Nat)
  | .mix _ => List Int ⊕ Option (Nat × Nat)
def ETy.sz : ETy → Nat
  | .pt => 2
  | _ => 1
def ETy.d : (e : ETy) → e.T
  | .int _ => (0 : Int)
  | .bool => false
  | .str => ByteArray.empty
  | .pt => ((0 : Int), (0 : Int))
  | .sli _ => ([] : List Int)
  | .slb => ([] : List Bool)
  | .own _ => (none : Option (Nat × Nat))
  | .mix _ => (Sum.inr none : List Int ⊕ Option (Nat × Nat))

/-- An abstract value: what a temporary is known to hold. -/
inductive AVal where
  | v (x : Value)
  | junk
  | ptr (sz k i j : Nat)
  | sl (sz k off n : Nat)
  | rd (e : ETy) (xs : List e.T)
  | rp (cs : List AVal) (j : Nat)
  | agg (cs : List AVal)
  | tup (cs : List AVal)
  | fn (f : FuncId) (cap : List AVal)
  | mp (k : Nat)
  | it (k : Nat)

instance : Inhabited AVal := ⟨.junk⟩

/-- The cells of an element. -/
def ETy.enc : (e : ETy) → e.T → List AVal
  | .int k, n => [.v (.int k n)]
  | .bool, b => [.v (.bool b)]
  | .str, s => [.v (.string s)]
  | .pt, p => [.v (.int .i64 p.1), .v (.int .i64 p.2)]
  | .sli k, l => [.rd (.int k) l]
  | .slb, l => [.rd .bool l]
  | .own _, some p => [.sl 1 p.1 0 p.2]
  | .own _, none => [.v (.slice none 0 0)]
  | .mix k, .inl l => [.rd (.int k) l]
  | .mix _, .inr (some p) => [.sl 1 p.1 0 p.2]
  | .mix _, .inr none => [.v (.slice none 0 0)]
def ETy.dec : (e : ETy) → List AVal → Option e.T
  | .int k, [.v (.int k' n)] => if k = k' then some n else none
  | .bool, [.v (.bool b)] => some b
  | .str, [.v (.string s)] => some s
  | .pt, [.v (.int .i64 x), .v (.int .i64 y)] => some (x, y)
  | .sli k, [.rd (.int k') l] => if k = k' then some l else none
  | .slb, [.rd .bool l] => some l
  | .own _, [.sl 1 k 0 n] => some (some (k, n))
  | .own _, [.v (.slice none 0 0)] => some none
  | .mix k, [.rd (.int k') l] => if k = k' then some (.inl l) else none
  | .mix _, [.sl 1 k 0 n] => some (.inr (some (k, n)))
  | .mix _, [.v (.slice none 0 0)] => some (.inr none)
  | _, _ => none

theorem ETy.enc_length (e : ETy) (x : e.T) : (e.enc x).length = e.sz := by
  cases e
  case own k => rcases (x : Option (Nat × Nat)) with _ | p <;> rfl
  case mix k => rcases (x : List Int ⊕ Option (Nat × Nat)) with l | _ | p <;> rfl
  all_goals rfl
theorem ETy.sz_pos (e : ETy) : 0 < e.sz := by cases e <;> exact Nat.succ_pos _
theorem ETy.enc_dec (e : ETy) (cs : List AVal) (x : e.T) (h : e.dec cs = some x) : e.enc x = cs := by
  unfold ETy.dec at h
  split at h
  all_goals first
    | (split at h; (rename_i hk; subst hk; cases h; rfl); cases h; done)
    | (cases h; rfl)
    | cases h

structure Loc where
  blk : Nat
  off : Nat
  cap : Nat

/-- What the abstract numbers stand for; which blocks are sealed (never written again), and what they hold. -/
structure Ctx where
  os : Os
  tape : Nat → Question → Nat
  output : Array (Nat × ByteArray)
  sealed : Nat → Option Obj
  loc : Nat → Option Loc

structure SExt (c c' : Ctx) : Prop where
  os : c'.os = c.os
  tape : c'.tape = c.tape
  output : c'.output = c.output
  sealed : ∀ b o, c.sealed b = some o → c'.sealed b = some o

theorem SExt.refl (c : Ctx) : SExt c c := ⟨rfl, rfl, rfl, fun _ _ h => h⟩
theorem SExt.trans {a b c : Ctx} (h : SExt a b) (k : SExt b c) : SExt a c :=
  ⟨k.os.trans h.os, k.tape.trans h.tape, k.output.trans h.output, fun b o hb => k.sealed b o (h.sealed b o hb)⟩

/-- c' knows all that c knows of the numbers below n. -/
structure ExtB (n : Nat) (c c' : Ctx) : Prop extends SExt c c' where
  loc : ∀ k l, k < n → c.loc k = some l → c'.loc k = some l
structure Ext (c c' : Ctx) : Prop extends SExt c c' where
  loc : ∀ k l, c.loc k = some l → c'.loc k = some l

theorem Ext.refl (c : Ctx) : Ext c c := ⟨.refl c, fun _ _ h => h⟩
theorem Ext.trans {a b c : Ctx} (h : Ext a b) (k : Ext b c) : Ext a c := ⟨h.toSExt.trans k.toSExt, fun i l hl => k.loc i l (h.loc i l hl)⟩
theorem Ext.toB {a b : Ctx} (h : Ext a b) (n : Nat) : ExtB n a b := ⟨h.toSExt, fun k l _ hl => h.loc k l hl⟩
theorem ExtB.refl (n : Nat) (c : Ctx) : ExtB n c c := ⟨.refl c, fun _ _ _ h => h⟩
theorem ExtB.trans {n : Nat} {a b c : Ctx} (h : ExtB n a b) (k : ExtB n b c) : ExtB n a c :=
  ⟨h.toSExt.trans k.toSExt, fun i l hi hl => k.loc i l hi (h.loc i l hi hl)⟩
theorem ExtB.mono {n m : Nat} {a b : Ctx} (h : ExtB n a b) (hm : m ≤ n) : ExtB m a b := ⟨h.toSExt, fun k l hk hl => h.loc k l (by omega) hl⟩

inductive RelV (c : Ctx) : AVal → Value → Prop where
  | v (x : Value) : RelV c (.v x) x
  | junk (x : Value) : RelV c .junk x
  | ptr {sz k i j : Nat} {l : Loc} (h : c.loc k = some l) : RelV c (.ptr sz k i j) (.pointer (some ⟨l.blk, l.off + i * sz + j, none⟩))
  | sl {sz k off n b o : Nat} {l : Loc} (h : c.loc k = some l) (hn : off + n ≤ l.cap) (ha : off < l.cap → b = l.blk ∧ o = l.off + off * sz) :
      RelV c (.sl sz k off n) (.slice (some ⟨b, o, none⟩) n (l.cap - off))
  | rd {e : ETy} {xs : List e.T} {a : Option Addr} {cp n : Nat} (g : Nat → Nat → Value) (hl : xs.length = n) (hcp : n ≤ cp)
      (ha : 0 < n → ∃ b o cells T fr, a = some ⟨b, o, none⟩ ∧ c.sealed b = some (.cells cells T fr) ∧ ∀ i j, i < n → j < e.sz → cells[o + i * e.sz + j]? = some (g i j))
      (hr : ∀ i j, i < n → j < e.sz → RelV c ((e.enc (xs.getD i e.d)).getD j .junk) (g i j)) : RelV c (.rd e xs) (.slice a n cp)
  | rp {cs : List AVal} {j b o : Nat} {cells : Array Value} {T : TypeId} {fr : Nat × Nat} (g : Nat → Value) (h : c.sealed b = some (.cells cells T fr))
      (hc : ∀ i, i < cs.length → cells[o + i]? = some (g i)) (hr : ∀ i, i < cs.length → RelV c (cs.getD i .junk) (g i)) : RelV c (.rp cs j) (.pointer (some ⟨b, o + j, none⟩))
  | agg {cs : List AVal} {vs : List Value} (hl : cs.length = vs.length) (h : ∀ i, i < cs.length → RelV c (cs.getD i .junk) (vs.getD i undef)) : RelV c (.agg cs) (.agg vs.toArray)
  | tup {cs : List AVal} {vs : List Value} (hl : cs.length = vs.length) (h : ∀ i, i < cs.length → RelV c (cs.getD i .junk) (vs.getD i undef)) : RelV c (.tup cs) (.tuple vs.toArray)
  | fn {f : FuncId} {cs : List AVal} {vs : List Value} (hl : cs.length = vs.length) (h : ∀ i, i < cs.length → RelV c (cs.getD i .junk) (vs.getD i undef)) :
      RelV c (.fn f cs) (.func (.func f) #[] vs.toArray)
  | mp {k : Nat} {l : Loc} (h : c.loc k = some l) : RelV c (.mp k) (.map (some l.blk))
  | it {k : Nat} {l : Loc} (h : c.loc k = some l) : RelV c (.it k) (.pointer (some ⟨l.blk, 0, none⟩))

/-- All numbers in it are below n. -/
inductive IdsLt (n : Nat) : AVal → Prop where
  | v (x : Value) : IdsLt n (.v x)
  | junk : IdsLt n .junk
  | ptr {sz k i j : Nat} (h : k < n) : IdsLt n (.ptr sz k i j)
  | sl {sz k off m : Nat} (h : k < n) : IdsLt n (.sl sz k off m)
  | rd {e : ETy} {xs : List e.T} (h : ∀ i j, i < xs.length → j < e.sz → IdsLt n ((e.enc (xs.getD i e.d)).getD j .junk)) : IdsLt n (.rd e xs)
  | rp {cs : List AVal} {j : Nat} (h : ∀ i, i < cs.length → IdsLt n (cs.getD i .junk)) : IdsLt n (.rp cs j)
  | agg {cs : List AVal} (h : ∀ i, i < cs.length → IdsLt n (cs.getD i .junk)) : IdsLt n (.agg cs)
  | tup {cs : List AVal} (h : ∀ i, i < cs.length → IdsLt n (cs.getD i .junk)) : IdsLt n (.tup cs)
  | fn {f : FuncId} {cs : List AVal} (h : ∀ i, i < cs.length → IdsLt n (cs.getD i .junk)) : IdsLt n (.fn f cs)
  | mp {k : Nat} (h : k < n) : IdsLt n (.mp k)
  | it {k : Nat} (h : k < n) : IdsLt n (.it k)

theorem IdsLt.mono {n m : Nat} {a : AVal} (h : IdsLt n a) (hm : n ≤ m) : IdsLt m a := by
  induction h with
  | v x => exact .v x
  | junk => exact .junk
  | ptr h => exact .ptr (by omega)
  | sl h => exact .sl (by omega)
  | rd _ ih => exact .rd ih
  | rp _ ih => exact .rp ih
  | agg _ ih => exact .agg ih
  | tup _ ih => exact .tup ih
  | fn _ ih => exact .fn ih
  | mp h => exact .mp (by omega)
  | it h => exact .it (by omega)

/-- What holds in c holds in c', if c' knows what c knows of the numbers that it bears. -/
theorem RelV.extB {n : Nat} {c c' : Ctx} (he : ExtB n c c') {a : AVal} {x : Value} (h : RelV c a x) : IdsLt n a → RelV c' a x := by
  induction h with
  | v x => exact fun _ => .v x
  | junk x => exact fun _ => .junk x
  | ptr h => intro hi; cases hi with | ptr hk => exact .ptr (he.loc _ _ hk h)
  | sl h hn ha => intro hi; cases hi with | sl hk => exact .sl (he.loc _ _ hk h) hn ha
  | @rd e xs a cp n' g hl hcp ha hr ih =>
    intro hi
    cases hi with
    | rd hk =>
      refine .rd g hl hcp (fun hn => ?_) (fun i j hi hj => ih i j hi hj (hk i j (by omega) hj))
      obtain ⟨b, o, cells, T, fr, h1, h2, h3⟩ := ha hn
      exact ⟨b, o, cells, T, fr, h1, he.sealed _ _ h2, h3⟩
  | rp g h hc hr ih => intro hi; cases hi with | rp hk => exact .rp g (he.sealed _ _ h) hc (fun i hi => ih i hi (hk i hi))
  | agg hl h ih => intro hi; cases hi with | agg hk => exact .agg hl (fun i hi => ih i hi (hk i hi))
  | tup hl h ih => intro hi; cases hi with | tup hk => exact .tup hl (fun i hi => ih i hi (hk i hi))
  | fn hl h ih => intro hi; cases hi with | fn hk => exact .fn hl (fun i hi => ih i hi (hk i hi))
  | mp h => intro hi; cases hi with | mp hk => exact .mp (he.loc _ _ hk h)
  | it h => intro hi; cases hi with | it hk => exact .it (he.loc _ _ hk h)

theorem RelV.ids {n : Nat} {c : Ctx} (hd : ∀ k l, c.loc k = some l → k < n) {a : AVal} {x : Value} (h : RelV c a x) : IdsLt n a := by
  induction h with
  | v x => exact .v x
  | junk x => exact .junk
  | ptr h => exact .ptr (hd _ _ h)
  | sl h hn ha => exact .sl (hd _ _ h)
  | rd g hl hcp ha hr ih => exact .rd (fun i j hi hj => ih i j (by omega) hj)
  | rp g h hc hr ih => exact .rp ih
  | agg hl h ih => exact .agg ih
  | tup hl h ih => exact .tup ih
  | fn hl h ih => exact .fn ih
  | mp h => exact .mp (hd _ _ h)
  | it h => exact .it (hd _ _ h)

theorem RelV.ext {c c' : Ctx} (he : Ext c c') {a : AVal} {x : Value} (h : RelV c a x) : RelV c' a x := by
  induction h with
  | v x => exact .v x
  | junk x => exact .junk x
  | ptr h => exact .ptr (he.loc _ _ h)
  | sl h hn ha => exact .sl (he.loc _ _ h) hn ha
  | rd g hl hcp ha hr ih =>
    refine .rd g hl hcp (fun hn => ?_) ih
    obtain ⟨b, o, cells, T, fr, h1, h2, h3⟩ := ha hn
    exact ⟨b, o, cells, T, fr, h1, he.sealed _ _ h2, h3⟩
  | rp g h hc hr ih => exact .rp g (he.sealed _ _ h) hc ih
  | agg hl h ih => exact .agg hl ih
  | tup hl h ih => exact .tup hl ih
  | fn hl h ih => exact .fn hl ih
  | mp h => exact .mp (he.loc _ _ h)
  | it h => exact .it (he.loc _ _ h)

/-- It stands for one cell. -/
def AVal.cell : AVal → Bool
  | .v x => x.oneCell'
  | .junk | .agg _ | .tup _ => false
  | _ => true
theorem RelV.oneCell {c : Ctx} {a : AVal} {u : Value} (h : RelV c a u) (ha : a.cell = true) : u.oneCell' = true := by
  cases h <;> first | rfl | exact ha | cases ha
theorem ETy.cell_enc (e : ETy) (x : e.T) (j : Nat) (hj : j < e.sz) : ((e.enc x).getD j .junk).cell = true := by
  cases e <;> simp only [ETy.sz] at hj
  case own k => obtain rfl : j = 0 := by omega
                rcases (x : Option (Nat × Nat)) with _ | p <;> rfl
  case mix k => obtain rfl : j = 0 := by omega
                rcases (x : List Int ⊕ Option (Nat × Nat)) with l | _ | p <;> rfl
  case pt => rcases j with _ | _ | j <;> first | rfl | omega
  all_goals (obtain rfl : j = 0 := by omega); rfl

/-- The kinds of keys that a map may have. -/
inductive KK where
  | int (k : IntKind)
  | pt
  | str
  deriving DecidableEq
@[reducible] def KK.T : KK → Type
  | .int _ => Int
  | .pt => Int × Int
  | .str => ByteArray
instance KK.dec : (kk : KK) → DecidableEq kk.T
  | .int _ => inferInstanceAs (DecidableEq Int)
  | .pt => inferInstanceAs (DecidableEq (Int × Int))
  | .str => inferInstanceAs (DecidableEq ByteArray)
def KK.val : (kk : KK) → kk.T → Value
  | .int k, n => .int k n
  | .pt, p => .agg #[.int .i64 p.1, .int .i64 p.2]
  | .str, s => .string s
/-- The entries of a map that nothing was ever taken out of: their stamps are their places. -/
def entsF (kk : KK) : Nat → List (kk.T × Value) → List MapEntry
  | _, [] => []
  | i, x :: r => ⟨kk.val x.1, x.2, i⟩ :: entsF kk (i + 1) r

/-- A box: what is known of a block of memory (or of a part of it) that has a number. -/
inductive ABox where
  | dead
  | box (ro : Bool) (cs : List AVal)
  | row (ro : Bool) (e : ETy) (xs : List e.T)
  | map (kk : KK) (es : List (kk.T × Value))
  | iter (m since : Nat) (seen : List Nat)
  | tab (g : Nat) (o : Obj)

def ABox.live : ABox → Bool
  | .dead => false
  | _ => true

/-- Writable blocks are not sealed; read-only ones are. -/
def modeOk (c : Ctx) (b : Nat) (o : Obj) (ro : Bool) : Prop := c.sealed b = if ro then some o else none

def RelB (c : Ctx) (w : World) (l : Loc) : ABox → Prop
  | .dead => True
  | .box ro cs => ∃ cells T, w.heap[l.blk]? = some (.cells cells T (0, 0)) ∧ modeOk c l.blk (.cells cells T (0, 0)) ro ∧
      ∀ j, j < cs.length → ∃ u, cells[l.off + j]? = some u ∧ RelV c (cs.getD j .junk) u
  | .row ro e xs => ∃ cells T, w.heap[l.blk]? = some (.cells cells T (0, 0)) ∧ modeOk c l.blk (.cells cells T (0, 0)) ro ∧
      l.off + l.cap * e.sz ≤ cells.size ∧ xs.length ≤ l.cap ∧
      ∀ i j, i < xs.length → j < e.sz → ∃ u, cells[l.off + i * e.sz + j]? = some u ∧ RelV c ((e.enc (xs.getD i e.d)).getD j .junk) u
  | .map kk es => w.heap[l.blk]? = some (.map (entsF kk 0 es).toArray es.length) ∧ c.sealed l.blk = none
  | .iter m since seen => (∃ lm, c.loc m = some lm ∧ w.heap[l.blk]? = some (.mapIter (some lm.blk) since seen.toArray since)) ∧ c.sealed l.blk = none
  | .tab g o => l.blk = g ∧ c.sealed l.blk = some o ∧ w.heap[l.blk]? = some o

structure RelH (c : Ctx) (H : List ABox) (w : World) : Prop where
  os : w.os = c.os
  tape : w.tape = c.tape
  output : w.output = c.output
  sealed : ∀ b o, c.sealed b = some o → w.heap[b]? = some o
  dom : ∀ k, H.length ≤ k → c.loc k = none
  box : ∀ k X, H[k]? = some X → X.live = true → ∃ l, c.loc k = some l ∧ RelB c w l X
  inj : ∀ k k' l l' X X', H[k]? = some X → X.live = true → H[k']? = some X' → X'.live = true → c.loc k = some l → c.loc k' = some l' → l.blk = l'.blk → k = k'

theorem RelH.lt {c : Ctx} {H : List ABox} {w : World} (h : RelH c H w) {k : Nat} {l : Loc} (hk : c.loc k = some l) : k < H.length := by
  rcases Nat.lt_or_ge k H.length with h1 | h1
  · exact h1
  · rw [h.dom k h1] at hk; cases hk

/-- A fact about a box's content carried to a greater context and a world that holds the same block. -/
theorem RelB.carry {c c' : Ctx} {w w' : World} {l : Loc} {X : ABox} (h : RelB c w l X) (he : Ext c c') (hb : X.live = true → w'.heap[l.blk]? = w.heap[l.blk]?)
    (hs : X.live = true → c'.sealed l.blk = c.sealed l.blk) : RelB c' w' l X := by
  cases X with
  | dead => trivial
  | box ro cs =>
    obtain ⟨cells, T, h1, h2, h3⟩ := h
    refine ⟨cells, T, (hb rfl).trans h1, ?_, fun j hj => ?_⟩
    · unfold modeOk at *; rw [hs rfl]; exact h2
    · obtain ⟨u, hu, hr⟩ := h3 j hj; exact ⟨u, hu, hr.ext he⟩
  | row ro e xs =>
    obtain ⟨cells, T, h1, h2, h3, h4, h6⟩ := h
    refine ⟨cells, T, (hb rfl).trans h1, ?_, h3, h4, fun i j hi hj => ?_⟩
    · unfold modeOk at *; rw [hs rfl]; exact h2
    · obtain ⟨u, hu, hr⟩ := h6 i j hi hj; exact ⟨u, hu, hr.ext he⟩
  | map kk es => exact ⟨(hb rfl).trans h.1, (hs rfl).trans h.2⟩
  | iter m since seen =>
    obtain ⟨⟨lm, h1, h2⟩, h3⟩ := h
    exact ⟨⟨lm, he.loc _ _ h1, (hb rfl).trans h2⟩, (hs rfl).trans h3⟩
  | tab g o => exact ⟨h.1, (hs rfl).trans h.2.1, (hb rfl).trans h.2.2⟩

/-- The block of a live box lies in the heap. -/
theorem RelB.blk_lt {c : Ctx} {w : World} {l : Loc} {X : ABox} (h : RelB c w l X) (hX : X.live = true) : l.blk < w.heap.size := by
  cases X with
  | dead => cases hX
  | box ro cs => obtain ⟨cells, T, h1, _⟩ := h; exact (Array.getElem?_eq_some_iff.1 h1).1
  | row ro e xs => obtain ⟨cells, T, h1, _⟩ := h; exact (Array.getElem?_eq_some_iff.1 h1).1
  | map kk es => exact (Array.getElem?_eq_some_iff.1 h.1).1
  | iter m since seen => obtain ⟨⟨lm, h1, h2⟩, h3⟩ := h; exact (Array.getElem?_eq_some_iff.1 h2).1
  | tab g o => exact (Array.getElem?_eq_some_iff.1 h.2.2).1

theorem World.heap_alloc_old (w : World) (o : Obj) (k : Nat) (h : k < w.heap.size) : (w.alloc o).heap[k]? = w.heap[k]? := by
  show (w.heap.push o)[k]? = _
  rw [Array.getElem?_push, if_neg (by omega)]
theorem World.heap_alloc_new (w : World) (o : Obj) : (w.alloc o).heap[w.heap.size]? = some o := by
  show (w.heap.push o)[w.heap.size]? = _
  simp

/-- The context in which one number more is known. -/
def Ctx.bind (c : Ctx) (k : Nat) (l : Loc) : Ctx := { c with loc := fun i => if i = k then some l else c.loc i }
theorem Ctx.bind_ext {c : Ctx} {k : Nat} {l : Loc} (h : c.loc k = none) : Ext c (c.bind k l) :=
  ⟨⟨rfl, rfl, rfl, fun _ _ h => h⟩, fun i l' hi => by
    show (if i = k then some l else c.loc i) = some l'
    by_cases e : i = k
    · subst e; rw [h] at hi; cases hi
    · rw [if_neg e]; exact hi⟩
theorem Ctx.bind_same (c : Ctx) (k : Nat) (l : Loc) : (c.bind k l).loc k = some l := by simp [Ctx.bind]

/-- A new block, a new box. -/
theorem RelH.allocO {c : Ctx} {H : List ABox} {w : World} (h : RelH c H w) (ob : Obj) (cap : Nat) (X : ABox)
    (hX : RelB (c.bind H.length ⟨w.heap.size, 0, cap⟩) (w.alloc ob) ⟨w.heap.size, 0, cap⟩ X) :
    RelH (c.bind H.length ⟨w.heap.size, 0, cap⟩) (H ++ [X]) (w.alloc ob) := by
  have hnone := h.dom H.length (Nat.le_refl _)
  have he := Ctx.bind_ext (l := ⟨w.heap.size, 0, cap⟩) hnone
  have hlt : ∀ b o, c.sealed b = some o → b < w.heap.size := fun b o hb => (Array.getElem?_eq_some_iff.1 (h.sealed b o hb)).1
  have hold : ∀ k Y l, H[k]? = some Y → Y.live = true → c.loc k = some l → l.blk < w.heap.size := fun k Y l hk hY hl => by
    obtain ⟨l', hl', hB⟩ := h.box k Y hk hY
    rw [hl] at hl'; cases hl'
    exact hB.blk_lt hY
  have hkof : ∀ k Y, (H ++ [X])[k]? = some Y → (k < H.length ∧ H[k]? = some Y) ∨ (k = H.length ∧ Y = X) := fun k Y hk => by
    rcases Nat.lt_or_ge k H.length with h1 | h1
    · exact .inl ⟨h1, by rwa [List.getElem?_append_left h1] at hk⟩
    · rw [List.getElem?_append_right h1] at hk
      have : k - H.length < 1 := by
        have := (List.getElem?_eq_some_iff.1 hk).1; simpa using this
      have e : k = H.length := by omega
      subst e
      simp at hk
      exact .inr ⟨rfl, hk.symm⟩
  have hloc : ∀ k l, k < H.length → (c.bind H.length ⟨w.heap.size, 0, cap⟩).loc k = some l → c.loc k = some l := fun k l hk hl => by
    have : (if k = H.length then some (⟨w.heap.size, 0, cap⟩ : Loc) else c.loc k) = some l := hl
    rwa [if_neg (by omega)] at this
  refine ⟨h.os, h.tape, h.output, fun b o hb => ?_, fun k hk => ?_, fun k Y hk hY => ?_, ?_⟩
  · rw [World.heap_alloc_old w _ b (hlt b o hb)]; exact h.sealed b o hb
  · show (if k = H.length then some (⟨w.heap.size, 0, cap⟩ : Loc) else c.loc k) = none
    simp at hk
    rw [if_neg (by omega)]
    exact h.dom k (by omega)
  · rcases hkof k Y hk with ⟨h1, h2⟩ | ⟨rfl, rfl⟩
    · obtain ⟨l, hl, hB⟩ := h.box k Y h2 hY
      exact ⟨l, he.loc k l hl, hB.carry he (fun _ => World.heap_alloc_old w _ _ (hB.blk_lt hY)) (fun _ => rfl)⟩
    · exact ⟨_, Ctx.bind_same _ _ _, hX⟩
  · intro k k' l l' Y Y' hk hY hk' hY' hl hl' hb
    rcases hkof k Y hk with ⟨h1, h2⟩ | ⟨rfl, rfl⟩ <;> rcases hkof k' Y' hk' with ⟨h1', h2'⟩ | ⟨rfl, rfl⟩
    · exact h.inj k k' l l' Y Y' h2 hY h2' hY' (hloc k l h1 hl) (hloc k' l' h1' hl') hb
    · have e1 := hold k Y l h2 hY (hloc k l h1 hl)
      rw [Ctx.bind_same] at hl'
      cases hl'
      simp at hb
      omega
    · have e1 := hold k' Y' l' h2' hY' (hloc k' l' h1' hl')
      rw [Ctx.bind_same] at hl
      cases hl
      simp at hb
      omega
    · rfl

theorem RelH.alloc {c : Ctx} {H : List ABox} {w : World} (h : RelH c H w) (cells : Array Value) (T : TypeId) (cap : Nat) (X : ABox)
    (hX : RelB (c.bind H.length ⟨w.heap.size, 0, cap⟩) (w.alloc (.cells cells T)) ⟨w.heap.size, 0, cap⟩ X) :
    RelH (c.bind H.length ⟨w.heap.size, 0, cap⟩) (H ++ [X]) (w.alloc (.cells cells T)) := h.allocO _ cap X hX

/-- The cells of a box's block are written; the box is another. -/
theorem RelH.writeW {c : Ctx} {H : List ABox} {w : World} (h : RelH c H w) {k : Nat} {l : Loc} {X Y : ABox} (hk : H[k]? = some X) (hX : X.live = true) (hl : c.loc k = some l)
    (hs : c.sealed l.blk = none) {w' : World} (e1 : w'.os = w.os) (e2 : w'.tape = w.tape) (e3 : w'.output = w.output) (e4 : ∀ b, b ≠ l.blk → w'.heap[b]? = w.heap[b]?) (hY : RelB c w' l Y) : RelH c (H.set k Y) w' := by
  have hklt : k < H.length := (List.getElem?_eq_some_iff.1 hk).1
  refine ⟨e1.trans h.os, e2.trans h.tape, e3.trans h.output, fun b o hb => ?_, fun i hi => h.dom i (by simpa using hi), fun i Z hi hZ => ?_, ?_⟩
  · have hne : b ≠ l.blk := fun e => by subst e; rw [hs] at hb; cases hb
    rw [e4 _ hne]; exact h.sealed b o hb
  · rw [List.getElem?_set] at hi
    by_cases e : k = i
    · subst e
      simp [hklt] at hi
      subst hi
      exact ⟨l, hl, hY⟩
    · rw [if_neg e] at hi
      obtain ⟨l', hl', hB⟩ := h.box i Z hi hZ
      have hne : l'.blk ≠ l.blk := fun hb => e (h.inj i k l' l Z X hi hZ hk hX hl' hl hb).symm
      exact ⟨l', hl', hB.carry (.refl c) (fun _ => e4 _ hne) (fun _ => rfl)⟩
  · intro i i' l1 l2 (Z : ABox) (Z' : ABox) hi hZ hi' hZ' h1 h2 hb
    have key : ∀ (i : Nat) (Z : ABox), (H.set k Y)[i]? = some Z → Z.live = true → ∃ Z', H[i]? = some Z' ∧ Z'.live = true := fun i Z hi hZ => by
      rw [List.getElem?_set] at hi
      by_cases e : k = i
      · subst e; exact ⟨X, hk, hX⟩
      · rw [if_neg e] at hi; exact ⟨Z, hi, hZ⟩
    obtain ⟨Z1, hz1, hz1'⟩ := key i Z hi hZ
    obtain ⟨Z2, hz2, hz2'⟩ := key i' Z' hi' hZ'
    exact h.inj i i' l1 l2 Z1 Z2 hz1 hz1' hz2 hz2' h1 h2 hb

theorem RelH.write {c : Ctx} {H : List ABox} {w : World} (h : RelH c H w) {k : Nat} {l : Loc} {X Y : ABox} (hk : H[k]? = some X) (hX : X.live = true) (hl : c.loc k = some l)
    (hs : c.sealed l.blk = none) (cells : Array Value) (hY : RelB c (w.setRow l.blk cells) l Y) : RelH c (H.set k Y) (w.setRow l.blk cells) :=
  h.writeW hk hX hl hs rfl rfl rfl (fun b hb => setRow_other w _ _ _ hb) hY

/-- A box is forgotten. -/
theorem RelH.kill {c : Ctx} {H : List ABox} {w : World} (h : RelH c H w) (k : Nat) : RelH c (H.set k .dead) w := by
  have key : ∀ (i : Nat) (Z : ABox), (H.set k .dead)[i]? = some Z → Z.live = true → H[i]? = some Z := fun i Z hi hZ => by
    rw [List.getElem?_set] at hi
    by_cases e : k = i
    · subst e
      by_cases hlt : k < H.length
      · simp [hlt] at hi; subst hi; cases hZ
      · simp [hlt] at hi
    · rw [if_neg e] at hi; exact hi
  exact ⟨h.os, h.tape, h.output, h.sealed, fun i hi => h.dom i (by simpa using hi), fun i (Z : ABox) hi hZ => h.box i Z (key i Z hi hZ) hZ,
    fun i i' l1 l2 (Z Z' : ABox) hi hZ hi' hZ' => h.inj i i' l1 l2 Z Z' (key i Z hi hZ) hZ (key i' Z' hi' hZ') hZ'⟩

theorem RelH.drew {c : Ctx} {H : List ABox} {w : World} (h : RelH c H w) : RelH c H w.drew :=
  ⟨h.os, h.tape, h.output, h.sealed, h.dom, fun k X hk hX => by
    obtain ⟨l, hl, hB⟩ := h.box k X hk hX
    exact ⟨l, hl, hB.carry (.refl c) (fun _ => rfl) (fun _ => rfl)⟩, h.inj⟩

end Go.Eng

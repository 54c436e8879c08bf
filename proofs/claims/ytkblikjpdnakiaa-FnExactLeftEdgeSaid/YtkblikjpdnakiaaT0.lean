/- Texts of this seat that the law stands on, put together. No conditions. -/
import Derived.WalkKit
section
set_option linter.unusedSimpArgs false
set_option linter.unusedVariables false
namespace Go.Eng
/-- The kinds of elements that a slice may have. -/
inductive ETy where
  | int (k : IntKind)
  | bool
  | str
  | pt
  | sli (k : IntKind)
  | slb
  | own (k : IntKind)
  | mix (k : IntKind)
  | st
  deriving DecidableEq
@[reducible] def ETy.T : ETy → Type
  | .int _ => Int
  | .bool => Bool
  | .str => ByteArray
  | .pt => Int × Int
  | .sli _ => List Int
  | .slb => List Bool
  | .own _ => Option (Nat × Nat)
  | .mix _ => List Int ⊕ Option (Nat × Nat)
  | .st => (Int × Int) × Int
def ETy.sz : ETy → Nat
  | .pt => 2
  | .st => 3
  | _ => 1
def ETy.d : (e : ETy) → e.T
  | .int _ => (0 : Int)
  | .bool => false
  | .str => ByteArray.empty
  | .pt => ((0 : Int), (0 : Int))
  | .sli _ => ([] : List Int)
  | .slb => ([] : List Bool)
  | .own _ => (none : Option (Nat × Nat))
  | .mix _ => (Sum.inr none : List Int ⊕ Option (Nat × Nat))
  | .st => (((0 : Int), (0 : Int)), (0 : Int))
/-- An abstract value: what a temporary is known to hold. -/
inductive AVal where
  | v (x : Value)
  | junk
  | ptr (sz k i j : Nat)
  | sl (sz k off n : Nat)
  | rd (e : ETy) (xs : List e.T)
  | rp (cs : List AVal) (j : Nat)
  | agg (cs : List AVal)
  | tup (cs : List AVal)
  | fn (f : FuncId) (cap : List AVal)
  | mp (k : Nat)
  | it (k : Nat)
instance : Inhabited AVal := ⟨.junk⟩
/-- The cells of an element. -/
def ETy.enc : (e : ETy) → e.T → List AVal
  | .int k, n => [.v (.int k n)]
  | .bool, b => [.v (.bool b)]
  | .str, s => [.v (.string s)]
  | .pt, p => [.v (.int .i64 p.1), .v (.int .i64 p.2)]
  | .sli k, l => [.rd (.int k) l]
  | .slb, l => [.rd .bool l]
  | .own _, some p => [.sl 1 p.1 0 p.2]
  | .own _, none => [.v (.slice none 0 0)]
  | .mix k, .inl l => [.rd (.int k) l]
  | .mix _, .inr (some p) => [.sl 1 p.1 0 p.2]
  | .mix _, .inr none => [.v (.slice none 0 0)]
  | .st, p => [.v (.int .i64 p.1.1), .v (.int .i64 p.1.2), .v (.int .i64 p.2)]
def ETy.dec : (e : ETy) → List AVal → Option e.T
  | .int k, [.v (.int k' n)] => if k = k' then some n else none
  | .bool, [.v (.bool b)] => some b
  | .str, [.v (.string s)] => some s
  | .pt, [.v (.int .i64 x), .v (.int .i64 y)] => some (x, y)
  | .sli k, [.rd (.int k') l] => if k = k' then some l else none
  | .slb, [.rd .bool l] => some l
  | .own _, [.sl 1 k 0 n] => some (some (k, n))
  | .own _, [.v (.slice none 0 0)] => some none
  | .mix k, [.rd (.int k') l] => if k = k' then some (.inl l) else none
  | .mix _, [.sl 1 k 0 n] => some (.inr (some (k, n)))
  | .mix _, [.v (.slice none 0 0)] => some (.inr none)
  | .st, [.v (.int .i64 x), .v (.int .i64 y), .v (.int .i64 z)] => some ((x, y), z)
  | _, _ => none
theorem ETy.enc_length (e : ETy) (x : e.T) : (e.enc x).length = e.sz := by
  cases e
  case own k => rcases (x : Option (Nat × Nat)) with _ | p <;> rfl
  case mix k => rcases (x : List Int ⊕ Option (Nat × Nat)) with l | _ | p <;> rfl
  all_goals rfl
theorem ETy.sz_pos (e : ETy) : 0 < e.sz := by cases e <;> exact Nat.succ_pos _
theorem ETy.enc_dec (e : ETy) (cs : List AVal) (x : e.T) (h : e.dec cs = some x) : e.enc x = cs := by
  unfold ETy.dec at h
  split at h
  all_goals first
    | (split at h; (rename_i hk; subst hk; cases h; rfl); cases h; done)
    | (cases h; rfl)
    | cases h
structure Loc where
  blk : Nat
  off : Nat
  cap : Nat
/-- What the abstract numbers stand for; which blocks are sealed (never written again), and what they hold. -/
structure Ctx where
  os : Os
  tape : Nat → Question → Nat
  output : Array (Nat × ByteArray)
  sealed : Nat → Option Obj
  loc : Nat → Option Loc
structure SExt (c c' : Ctx) : Prop where
  os : c'.os = c.os
  tape : c'.tape = c.tape
  output : c'.output = c.output
  sealed : ∀ b o, c.sealed b = some o → c'.sealed b = some o
theorem SExt.refl (c : Ctx) : SExt c c := ⟨rfl, rfl, rfl, fun _ _ h => h⟩
theorem SExt.trans {a b c : Ctx} (h : SExt a b) (k : SExt b c) : SExt a c :=
  ⟨k.os.trans h.os, k.tape.trans h.tape, k.output.trans h.output, fun b o hb => k.sealed b o (h.sealed b o hb)⟩
/-- c' knows all that c knows of the numbers below n. -/
structure ExtB (n : Nat) (c c' : Ctx) : Prop extends SExt c c' where
  loc : ∀ k l, k < n → c.loc k = some l → c'.loc k = some l
structure Ext (c c' : Ctx) : Prop extends SExt c c' where
  loc : ∀ k l, c.loc k = some l → c'.loc k = some l
theorem Ext.refl (c : Ctx) : Ext c c := ⟨.refl c, fun _ _ h => h⟩
theorem Ext.trans {a b c : Ctx} (h : Ext a b) (k : Ext b c) : Ext a c := ⟨h.toSExt.trans k.toSExt, fun i l hl => k.loc i l (h.loc i l hl)⟩
theorem Ext.toB {a b : Ctx} (h : Ext a b) (n : Nat) : ExtB n a b := ⟨h.toSExt, fun k l _ hl => h.loc k l hl⟩
theorem ExtB.refl (n : Nat) (c : Ctx) : ExtB n c c := ⟨.refl c, fun _ _ _ h => h⟩
theorem ExtB.trans {n : Nat} {a b c : Ctx} (h : ExtB n a b) (k : ExtB n b c) : ExtB n a c :=
  ⟨h.toSExt.trans k.toSExt, fun i l hi hl => k.loc i l hi (h.loc i l hi hl)⟩
theorem ExtB.mono {n m : Nat} {a b : Ctx} (h : ExtB n a b) (hm : m ≤ n) : ExtB m a b := ⟨h.toSExt, fun k l hk hl => h.loc k l (by omega) hl⟩
inductive RelV (c : Ctx) : AVal → Value → Prop where
  | v (x : Value) : RelV c (.v x) x
  | junk (x : Value) : RelV c .junk x
  | ptr {sz k i j : Nat} {l : Loc} (h : c.loc k = some l) : RelV c (.ptr sz k i j) (.pointer (some ⟨l.blk, l.off + i * sz + j, none⟩))
  | sl {sz k off n b o : Nat} {l : Loc} (h : c.loc k = some l) (hn : off + n ≤ l.cap) (ha : off < l.cap → b = l.blk ∧ o = l.off + off * sz) :
      RelV c (.sl sz k off n) (.slice (some ⟨b, o, none⟩) n (l.cap - off))
  | rd {e : ETy} {xs : List e.T} {a : Option Addr} {cp n : Nat} (g : Nat → Nat → Value) (hl : xs.length = n) (hcp : n ≤ cp)
      (ha : 0 < n → ∃ b o cells T fr, a = some ⟨b, o, none⟩ ∧ c.sealed b = some (.cells cells T fr) ∧ ∀ i j, i < n → j < e.sz → cells[o + i * e.sz + j]? = some (g i j))
      (hr : ∀ i j, i < n → j < e.sz → RelV c ((e.enc (xs.getD i e.d)).getD j .junk) (g i j)) : RelV c (.rd e xs) (.slice a n cp)
  | rp {cs : List AVal} {j b o : Nat} {cells : Array Value} {T : TypeId} {fr : Nat × Nat} (g : Nat → Value) (h : c.sealed b = some (.cells cells T fr))
      (hc : ∀ i, i < cs.length → cells[o + i]? = some (g i)) (hr : ∀ i, i < cs.length → RelV c (cs.getD i .junk) (g i)) : RelV c (.rp cs j) (.pointer (some ⟨b, o + j, none⟩))
  | agg {cs : List AVal} {vs : List Value} (hl : cs.length = vs.length) (h : ∀ i, i < cs.length → RelV c (cs.getD i .junk) (vs.getD i undef)) : RelV c (.agg cs) (.agg vs.toArray)
  | tup {cs : List AVal} {vs : List Value} (hl : cs.length = vs.length) (h : ∀ i, i < cs.length → RelV c (cs.getD i .junk) (vs.getD i undef)) : RelV c (.tup cs) (.tuple vs.toArray)
  | fn {f : FuncId} {cs : List AVal} {vs : List Value} (hl : cs.length = vs.length) (h : ∀ i, i < cs.length → RelV c (cs.getD i .junk) (vs.getD i undef)) :
      RelV c (.fn f cs) (.func (.func f) #[] vs.toArray)
  | mp {k : Nat} {l : Loc} (h : c.loc k = some l) : RelV c (.mp k) (.map (some l.blk))
  | it {k : Nat} {l : Loc} (h : c.loc k = some l) : RelV c (.it k) (.pointer (some ⟨l.blk, 0, none⟩))
/-- All numbers in it are below n. -/
inductive IdsLt (n : Nat) : AVal → Prop where
  | v (x : Value) : IdsLt n (.v x)
  | junk : IdsLt n .junk
  | ptr {sz k i j : Nat} (h : k < n) : IdsLt n (.ptr sz k i j)
  | sl {sz k off m : Nat} (h : k < n) : IdsLt n (.sl sz k off m)
  | rd {e : ETy} {xs : List e.T} (h : ∀ i j, i < xs.length → j < e.sz → IdsLt n ((e.enc (xs.getD i e.d)).getD j .junk)) : IdsLt n (.rd e xs)
  | rp {cs : List AVal} {j : Nat} (h : ∀ i, i < cs.length → IdsLt n (cs.getD i .junk)) : IdsLt n (.rp cs j)
  | agg {cs : List AVal} (h : ∀ i, i < cs.length → IdsLt n (cs.getD i .junk)) : IdsLt n (.agg cs)
  | tup {cs : List AVal} (h : ∀ i, i < cs.length → IdsLt n (cs.getD i .junk)) : IdsLt n (.tup cs)
  | fn {f : FuncId} {cs : List AVal} (h : ∀ i, i < cs.length → IdsLt n (cs.getD i .junk)) : IdsLt n (.fn f cs)
  | mp {k : Nat} (h : k < n) : IdsLt n (.mp k)
  | it {k : Nat} (h : k < n) : IdsLt n (.it k)
theorem IdsLt.mono {n m : Nat} {a : AVal} (h : IdsLt n a) (hm : n ≤ m) : IdsLt m a := by
  induction h with
  | v x => exact .v x
  | junk => exact .junk
  | ptr h => exact .ptr (by omega)
  | sl h => exact .sl (by omega)
  | rd _ ih => exact .rd ih
  | rp _ ih => exact .rp ih
  | agg _ ih => exact .agg ih
  | tup _ ih => exact .tup ih
  | fn _ ih => exact .fn ih
  | mp h => exact .mp (by omega)
  | it h => exact .it (by omega)
/-- What holds in c holds in c', if c' knows what c knows of the numbers that it bears. -/
theorem RelV.extB {n : Nat} {c c' : Ctx} (he : ExtB n c c') {a : AVal} {x : Value} (h : RelV c a x) : IdsLt n a → RelV c' a x := by
  induction h with
  | v x => exact fun _ => .v x
  | junk x => exact fun _ => .junk x
  | ptr h => intro hi; cases hi with | ptr hk => exact .ptr (he.loc _ _ hk h)
  | sl h hn ha => intro hi; cases hi with | sl hk => exact .sl (he.loc _ _ hk h) hn ha
  | @rd e xs a cp n' g hl hcp ha hr ih =>
    intro hi
    cases hi with
    | rd hk =>
      refine .rd g hl hcp (fun hn => ?_) (fun i j hi hj => ih i j hi hj (hk i j (by omega) hj))
      obtain ⟨b, o, cells, T, fr, h1, h2, h3⟩ := ha hn
      exact ⟨b, o, cells, T, fr, h1, he.sealed _ _ h2, h3⟩
  | rp g h hc hr ih => intro hi; cases hi with | rp hk => exact .rp g (he.sealed _ _ h) hc (fun i hi => ih i hi (hk i hi))
  | agg hl h ih => intro hi; cases hi with | agg hk => exact .agg hl (fun i hi => ih i hi (hk i hi))
  | tup hl h ih => intro hi; cases hi with | tup hk => exact .tup hl (fun i hi => ih i hi (hk i hi))
  | fn hl h ih => intro hi; cases hi with | fn hk => exact .fn hl (fun i hi => ih i hi (hk i hi))
  | mp h => intro hi; cases hi with | mp hk => exact .mp (he.loc _ _ hk h)
  | it h => intro hi; cases hi with | it hk => exact .it (he.loc _ _ hk h)
theorem RelV.ids {n : Nat} {c : Ctx} (hd : ∀ k l, c.loc k = some l → k < n) {a : AVal} {x : Value} (h : RelV c a x) : IdsLt n a := by
  induction h with
  | v x => exact .v x
  | junk x => exact .junk
  | ptr h => exact .ptr (hd _ _ h)
  | sl h hn ha => exact .sl (hd _ _ h)
  | rd g hl hcp ha hr ih => exact .rd (fun i j hi hj => ih i j (by omega) hj)
  | rp g h hc hr ih => exact .rp ih
  | agg hl h ih => exact .agg ih
  | tup hl h ih => exact .tup ih
  | fn hl h ih => exact .fn ih
  | mp h => exact .mp (hd _ _ h)
  | it h => exact .it (hd _ _ h)
theorem RelV.ext {c c' : Ctx} (he : Ext c c') {a : AVal} {x : Value} (h : RelV c a x) : RelV c' a x := by
  induction h with
  | v x => exact .v x
  | junk x => exact .junk x
  | ptr h => exact .ptr (he.loc _ _ h)
  | sl h hn ha => exact .sl (he.loc _ _ h) hn ha
  | rd g hl hcp ha hr ih =>
    refine .rd g hl hcp (fun hn => ?_) ih
    obtain ⟨b, o, cells, T, fr, h1, h2, h3⟩ := ha hn
    exact ⟨b, o, cells, T, fr, h1, he.sealed _ _ h2, h3⟩
  | rp g h hc hr ih => exact .rp g (he.sealed _ _ h) hc ih
  | agg hl h ih => exact .agg hl ih
  | tup hl h ih => exact .tup hl ih
  | fn hl h ih => exact .fn hl ih
  | mp h => exact .mp (he.loc _ _ h)
  | it h => exact .it (he.loc _ _ h)
/-- It stands for one cell. -/
def AVal.cell : AVal → Bool
  | .v x => x.oneCell'
  | .junk | .agg _ | .tup _ => false
  | _ => true
theorem RelV.oneCell {c : Ctx} {a : AVal} {u : Value} (h : RelV c a u) (ha : a.cell = true) : u.oneCell' = true := by
  cases h <;> first | rfl | exact ha | cases ha
theorem ETy.cell_enc (e : ETy) (x : e.T) (j : Nat) (hj : j < e.sz) : ((e.enc x).getD j .junk).cell = true := by
  cases e <;> simp only [ETy.sz] at hj
  case own k => obtain rfl : j = 0 := by omega
                rcases (x : Option (Nat × Nat)) with _ | p <;> rfl
  case mix k => obtain rfl : j = 0 := by omega
                rcases (x : List Int ⊕ Option (Nat × Nat)) with l | _ | p <;> rfl
  case pt => rcases j with _ | _ | j <;> first | rfl | omega
  case st => rcases j with _ | _ | _ | j <;> first | rfl | omega
  all_goals (obtain rfl : j = 0 := by omega); rfl
/-- The kinds of keys that a map may have. -/
inductive KK where
  | int (k : IntKind)
  | pt
  | str
  | st
  deriving DecidableEq
@[reducible] def KK.T : KK → Type
  | .int _ => Int
  | .pt => Int × Int
  | .str => ByteArray
  | .st => (Int × Int) × Int
instance KK.dec : (kk : KK) → DecidableEq kk.T
  | .int _ => inferInstanceAs (DecidableEq Int)
  | .pt => inferInstanceAs (DecidableEq (Int × Int))
  | .str => inferInstanceAs (DecidableEq ByteArray)
  | .st => inferInstanceAs (DecidableEq ((Int × Int) × Int))
def KK.val : (kk : KK) → kk.T → Value
  | .int k, n => .int k n
  | .pt, p => .agg #[.int .i64 p.1, .int .i64 p.2]
  | .str, s => .string s
  | .st, p => .agg #[.int .i64 p.1.1, .int .i64 p.1.2, .int .i64 p.2]
/-- The entries of a map that nothing was ever taken out of: their stamps are their places. -/
def entsF (kk : KK) : Nat → List (kk.T × Value) → List MapEntry
  | _, [] => []
  | i, x :: r => ⟨kk.val x.1, x.2, i⟩ :: entsF kk (i + 1) r
/-- A box: what is known of a block of memory (or of a part of it) that has a number. -/
inductive ABox where
  | dead
  | box (ro : Bool) (cs : List AVal)
  | row (ro : Bool) (e : ETy) (xs : List e.T)
  | map (kk : KK) (es : List (kk.T × Value))
  | iter (m since : Nat) (seen : List Nat)
  | tab (g : Nat) (o : Obj)
def ABox.live : ABox → Bool
  | .dead => false
  | _ => true
/-- Writable blocks are not sealed; read-only ones are. -/
def modeOk (c : Ctx) (b : Nat) (o : Obj) (ro : Bool) : Prop := c.sealed b = if ro then some o else none
def RelB (c : Ctx) (w : World) (l : Loc) : ABox → Prop
  | .dead => True
  | .box ro cs => ∃ cells T, w.heap[l.blk]? = some (.cells cells T (0, 0)) ∧ modeOk c l.blk (.cells cells T (0, 0)) ro ∧
      ∀ j, j < cs.length → ∃ u, cells[l.off + j]? = some u ∧ RelV c (cs.getD j .junk) u
  | .row ro e xs => ∃ cells T, w.heap[l.blk]? = some (.cells cells T (0, 0)) ∧ modeOk c l.blk (.cells cells T (0, 0)) ro ∧
      l.off + l.cap * e.sz ≤ cells.size ∧ xs.length ≤ l.cap ∧
      ∀ i j, i < xs.length → j < e.sz → ∃ u, cells[l.off + i * e.sz + j]? = some u ∧ RelV c ((e.enc (xs.getD i e.d)).getD j .junk) u
  | .map kk es => w.heap[l.blk]? = some (.map (entsF kk 0 es).toArray es.length) ∧ c.sealed l.blk = none
  | .iter m since seen => (∃ lm, c.loc m = some lm ∧ w.heap[l.blk]? = some (.mapIter (some lm.blk) since seen.toArray since)) ∧ c.sealed l.blk = none
  | .tab g o => l.blk = g ∧ c.sealed l.blk = some o ∧ w.heap[l.blk]? = some o
structure RelH (c : Ctx) (H : List ABox) (w : World) : Prop where
  os : w.os = c.os
  tape : w.tape = c.tape
  output : w.output = c.output
  sealed : ∀ b o, c.sealed b = some o → w.heap[b]? = some o
  dom : ∀ k, H.length ≤ k → c.loc k = none
  box : ∀ k X, H[k]? = some X → X.live = true → ∃ l, c.loc k = some l ∧ RelB c w l X
  inj : ∀ k k' l l' X X', H[k]? = some X → X.live = true → H[k']? = some X' → X'.live = true → c.loc k = some l → c.loc k' = some l' → l.blk = l'.blk → k = k'
theorem RelH.lt {c : Ctx} {H : List ABox} {w : World} (h : RelH c H w) {k : Nat} {l : Loc} (hk : c.loc k = some l) : k < H.length := by
  rcases Nat.lt_or_ge k H.length with h1 | h1
  · exact h1
  · rw [h.dom k h1] at hk; cases hk
/-- A fact about a box's content carried to a greater context and a world that holds the same block. -/
theorem RelB.carry {c c' : Ctx} {w w' : World} {l : Loc} {X : ABox} (h : RelB c w l X) (he : Ext c c') (hb : X.live = true → w'.heap[l.blk]? = w.heap[l.blk]?)
    (hs : X.live = true → c'.sealed l.blk = c.sealed l.blk) : RelB c' w' l X := by
  cases X with
  | dead => trivial
  | box ro cs =>
    obtain ⟨cells, T, h1, h2, h3⟩ := h
    refine ⟨cells, T, (hb rfl).trans h1, ?_, fun j hj => ?_⟩
    · unfold modeOk at *; rw [hs rfl]; exact h2
    · obtain ⟨u, hu, hr⟩ := h3 j hj; exact ⟨u, hu, hr.ext he⟩
  | row ro e xs =>
    obtain ⟨cells, T, h1, h2, h3, h4, h6⟩ := h
    refine ⟨cells, T, (hb rfl).trans h1, ?_, h3, h4, fun i j hi hj => ?_⟩
    · unfold modeOk at *; rw [hs rfl]; exact h2
    · obtain ⟨u, hu, hr⟩ := h6 i j hi hj; exact ⟨u, hu, hr.ext he⟩
  | map kk es => exact ⟨(hb rfl).trans h.1, (hs rfl).trans h.2⟩
  | iter m since seen =>
    obtain ⟨⟨lm, h1, h2⟩, h3⟩ := h
    exact ⟨⟨lm, he.loc _ _ h1, (hb rfl).trans h2⟩, (hs rfl).trans h3⟩
  | tab g o => exact ⟨h.1, (hs rfl).trans h.2.1, (hb rfl).trans h.2.2⟩
/-- The block of a live box lies in the heap. -/
theorem RelB.blk_lt {c : Ctx} {w : World} {l : Loc} {X : ABox} (h : RelB c w l X) (hX : X.live = true) : l.blk < w.heap.size := by
  cases X with
  | dead => cases hX
  | box ro cs => obtain ⟨cells, T, h1, _⟩ := h; exact (Array.getElem?_eq_some_iff.1 h1).1
  | row ro e xs => obtain ⟨cells, T, h1, _⟩ := h; exact (Array.getElem?_eq_some_iff.1 h1).1
  | map kk es => exact (Array.getElem?_eq_some_iff.1 h.1).1
  | iter m since seen => obtain ⟨⟨lm, h1, h2⟩, h3⟩ := h; exact (Array.getElem?_eq_some_iff.1 h2).1
  | tab g o => exact (Array.getElem?_eq_some_iff.1 h.2.2).1
theorem World.heap_alloc_old (w : World) (o : Obj) (k : Nat) (h : k < w.heap.size) : (w.alloc o).heap[k]? = w.heap[k]? := by
  show (w.heap.push o)[k]? = _
  rw [Array.getElem?_push, if_neg (by omega)]
theorem World.heap_alloc_new (w : World) (o : Obj) : (w.alloc o).heap[w.heap.size]? = some o := by
  show (w.heap.push o)[w.heap.size]? = _
  simp
/-- The context in which one number more is known. -/
def Ctx.bind (c : Ctx) (k : Nat) (l : Loc) : Ctx := { c with loc := fun i => if i = k then some l else c.loc i }
theorem Ctx.bind_ext {c : Ctx} {k : Nat} {l : Loc} (h : c.loc k = none) : Ext c (c.bind k l) :=
  ⟨⟨rfl, rfl, rfl, fun _ _ h => h⟩, fun i l' hi => by
    show (if i = k then some l else c.loc i) = some l'
    by_cases e : i = k
    · subst e; rw [h] at hi; cases hi
    · rw [if_neg e]; exact hi⟩
theorem Ctx.bind_same (c : Ctx) (k : Nat) (l : Loc) : (c.bind k l).loc k = some l := by simp [Ctx.bind]
/-- A new block, a new box. -/
theorem RelH.allocO {c : Ctx} {H : List ABox} {w : World} (h : RelH c H w) (ob : Obj) (cap : Nat) (X : ABox)
    (hX : RelB (c.bind H.length ⟨w.heap.size, 0, cap⟩) (w.alloc ob) ⟨w.heap.size, 0, cap⟩ X) :
    RelH (c.bind H.length ⟨w.heap.size, 0, cap⟩) (H ++ [X]) (w.alloc ob) := by
  have hnone := h.dom H.length (Nat.le_refl _)
  have he := Ctx.bind_ext (l := ⟨w.heap.size, 0, cap⟩) hnone
  have hlt : ∀ b o, c.sealed b = some o → b < w.heap.size := fun b o hb => (Array.getElem?_eq_some_iff.1 (h.sealed b o hb)).1
  have hold : ∀ k Y l, H[k]? = some Y → Y.live = true → c.loc k = some l → l.blk < w.heap.size := fun k Y l hk hY hl => by
    obtain ⟨l', hl', hB⟩ := h.box k Y hk hY
    rw [hl] at hl'; cases hl'
    exact hB.blk_lt hY
  have hkof : ∀ k Y, (H ++ [X])[k]? = some Y → (k < H.length ∧ H[k]? = some Y) ∨ (k = H.length ∧ Y = X) := fun k Y hk => by
    rcases Nat.lt_or_ge k H.length with h1 | h1
    · exact .inl ⟨h1, by rwa [List.getElem?_append_left h1] at hk⟩
    · rw [List.getElem?_append_right h1] at hk
      have : k - H.length < 1 := by
        have := (List.getElem?_eq_some_iff.1 hk).1; simpa using this
      have e : k = H.length := by omega
      subst e
      simp at hk
      exact .inr ⟨rfl, hk.symm⟩
  have hloc : ∀ k l, k < H.length → (c.bind H.length ⟨w.heap.size, 0, cap⟩).loc k = some l → c.loc k = some l := fun k l hk hl => by
    have : (if k = H.length then some (⟨w.heap.size, 0, cap⟩ : Loc) else c.loc k) = some l := hl
    rwa [if_neg (by omega)] at this
  refine ⟨h.os, h.tape, h.output, fun b o hb => ?_, fun k hk => ?_, fun k Y hk hY => ?_, ?_⟩
  · rw [World.heap_alloc_old w _ b (hlt b o hb)]; exact h.sealed b o hb
  · show (if k = H.length then some (⟨w.heap.size, 0, cap⟩ : Loc) else c.loc k) = none
    simp at hk
    rw [if_neg (by omega)]
    exact h.dom k (by omega)
  · rcases hkof k Y hk with ⟨h1, h2⟩ | ⟨rfl, rfl⟩
    · obtain ⟨l, hl, hB⟩ := h.box k Y h2 hY
      exact ⟨l, he.loc k l hl, hB.carry he (fun _ => World.heap_alloc_old w _ _ (hB.blk_lt hY)) (fun _ => rfl)⟩
    · exact ⟨_, Ctx.bind_same _ _ _, hX⟩
  · intro k k' l l' Y Y' hk hY hk' hY' hl hl' hb
    rcases hkof k Y hk with ⟨h1, h2⟩ | ⟨rfl, rfl⟩ <;> rcases hkof k' Y' hk' with ⟨h1', h2'⟩ | ⟨rfl, rfl⟩
    · exact h.inj k k' l l' Y Y' h2 hY h2' hY' (hloc k l h1 hl) (hloc k' l' h1' hl') hb
    · have e1 := hold k Y l h2 hY (hloc k l h1 hl)
      rw [Ctx.bind_same] at hl'
      cases hl'
      simp at hb
      omega
    · have e1 := hold k' Y' l' h2' hY' (hloc k' l' h1' hl')
      rw [Ctx.bind_same] at hl
      cases hl
      simp at hb
      omega
    · rfl
theorem RelH.alloc {c : Ctx} {H : List ABox} {w : World} (h : RelH c H w) (cells : Array Value) (T : TypeId) (cap : Nat) (X : ABox)
    (hX : RelB (c.bind H.length ⟨w.heap.size, 0, cap⟩) (w.alloc (.cells cells T)) ⟨w.heap.size, 0, cap⟩ X) :
    RelH (c.bind H.length ⟨w.heap.size, 0, cap⟩) (H ++ [X]) (w.alloc (.cells cells T)) := h.allocO _ cap X hX
/-- The cells of a box's block are written; the box is another. -/
theorem RelH.writeW {c : Ctx} {H : List ABox} {w : World} (h : RelH c H w) {k : Nat} {l : Loc} {X Y : ABox} (hk : H[k]? = some X) (hX : X.live = true) (hl : c.loc k = some l)
    (hs : c.sealed l.blk = none) {w' : World} (e1 : w'.os = w.os) (e2 : w'.tape = w.tape) (e3 : w'.output = w.output) (e4 : ∀ b, b ≠ l.blk → w'.heap[b]? = w.heap[b]?) (hY : RelB c w' l Y) : RelH c (H.set k Y) w' := by
  have hklt : k < H.length := (List.getElem?_eq_some_iff.1 hk).1
  refine ⟨e1.trans h.os, e2.trans h.tape, e3.trans h.output, fun b o hb => ?_, fun i hi => h.dom i (by simpa using hi), fun i Z hi hZ => ?_, ?_⟩
  · have hne : b ≠ l.blk := fun e => by subst e; rw [hs] at hb; cases hb
    rw [e4 _ hne]; exact h.sealed b o hb
  · rw [List.getElem?_set] at hi
    by_cases e : k = i
    · subst e
      simp [hklt] at hi
      subst hi
      exact ⟨l, hl, hY⟩
    · rw [if_neg e] at hi
      obtain ⟨l', hl', hB⟩ := h.box i Z hi hZ
      have hne : l'.blk ≠ l.blk := fun hb => e (h.inj i k l' l Z X hi hZ hk hX hl' hl hb).symm
      exact ⟨l', hl', hB.carry (.refl c) (fun _ => e4 _ hne) (fun _ => rfl)⟩
  · intro i i' l1 l2 (Z : ABox) (Z' : ABox) hi hZ hi' hZ' h1 h2 hb
    have key : ∀ (i : Nat) (Z : ABox), (H.set k Y)[i]? = some Z → Z.live = true → ∃ Z', H[i]? = some Z' ∧ Z'.live = true := fun i Z hi hZ => by
      rw [List.getElem?_set] at hi
      by_cases e : k = i
      · subst e; exact ⟨X, hk, hX⟩
      · rw [if_neg e] at hi; exact ⟨Z, hi, hZ⟩
    obtain ⟨Z1, hz1, hz1'⟩ := key i Z hi hZ
    obtain ⟨Z2, hz2, hz2'⟩ := key i' Z' hi' hZ'
    exact h.inj i i' l1 l2 Z1 Z2 hz1 hz1' hz2 hz2' h1 h2 hb
theorem RelH.write {c : Ctx} {H : List ABox} {w : World} (h : RelH c H w) {k : Nat} {l : Loc} {X Y : ABox} (hk : H[k]? = some X) (hX : X.live = true) (hl : c.loc k = some l)
    (hs : c.sealed l.blk = none) (cells : Array Value) (hY : RelB c (w.setRow l.blk cells) l Y) : RelH c (H.set k Y) (w.setRow l.blk cells) :=
  h.writeW hk hX hl hs rfl rfl rfl (fun b hb => setRow_other w _ _ _ hb) hY
/-- A box is forgotten. -/
theorem RelH.kill {c : Ctx} {H : List ABox} {w : World} (h : RelH c H w) (k : Nat) : RelH c (H.set k .dead) w := by
  have key : ∀ (i : Nat) (Z : ABox), (H.set k .dead)[i]? = some Z → Z.live = true → H[i]? = some Z := fun i Z hi hZ => by
    rw [List.getElem?_set] at hi
    by_cases e : k = i
    · subst e
      by_cases hlt : k < H.length
      · simp [hlt] at hi; subst hi; cases hZ
      · simp [hlt] at hi
    · rw [if_neg e] at hi; exact hi
  exact ⟨h.os, h.tape, h.output, h.sealed, fun i hi => h.dom i (by simpa using hi), fun i (Z : ABox) hi hZ => h.box i Z (key i Z hi hZ) hZ,
    fun i i' l1 l2 (Z Z' : ABox) hi hZ hi' hZ' => h.inj i i' l1 l2 Z Z' (key i Z hi hZ) hZ (key i' Z' hi' hZ') hZ'⟩
theorem RelH.drew {c : Ctx} {H : List ABox} {w : World} (h : RelH c H w) : RelH c H w.drew :=
  ⟨h.os, h.tape, h.output, h.sealed, h.dom, fun k X hk hX => by
    obtain ⟨l, hl, hB⟩ := h.box k X hk hX
    exact ⟨l, hl, hB.carry (.refl c) (fun _ => rfl) (fun _ => rfl)⟩, h.inj⟩
end Go.Eng
end
section
set_option linter.unusedSimpArgs false
set_option linter.unusedVariables false
namespace Go.Eng
structure St where
  N : Nat
  slots : List (Nat × AVal)
  base : List ABox
  loc : List ABox
def lk : List (Nat × AVal) → Nat → AVal
  | [], _ => .junk
  | (k, a) :: r, t => bif k == t then a else lk r t
def AVal.ofVal : Value → AVal
  | .agg cs => .agg (cs.toList.map .v)
  | .tuple cs => .tup (cs.toList.map .v)
  | x => .v x
def St.ev (st : St) : Operand → AVal
  | .tmp t => lk st.slots t
  | .const x => .ofVal x
  | .func f => .fn f []
  | .global _ => .junk
def St.put (st : St) : Option Nat → AVal → St
  | none, _ => st
  | some t, a => { st with slots := (t, a) :: st.slots }
structure RelSt (n : Nat) (c : Ctx) (st : St) (a : Act) (w : World) : Prop where
  defers : a.defers = []
  size : a.tmps.size = st.N
  slots : ∀ t, RelV c (lk st.slots t) (a.tmps.getD t undef)
  heap : RelH c (st.base ++ st.loc) w
  hn : st.base.length = n
theorem getD_map_v (l : List Value) (i : Nat) (h : i < l.length) : (l.map AVal.v).getD i .junk = .v (l.getD i undef) := by
  simp [List.getD, h]
theorem RelV.ofVal (c : Ctx) (x : Value) : RelV c (.ofVal x) x := by
  cases x with
  | agg cs => exact .agg (vs := cs.toList) (by simp) (fun i hi => by rw [getD_map_v _ _ (by simpa using hi)]; exact .v _)
  | tuple cs => exact .tup (vs := cs.toList) (by simp) (fun i hi => by rw [getD_map_v _ _ (by simpa using hi)]; exact .v _)
  | _ => exact .v _
theorem RelSt.ev {n : Nat} {c : Ctx} {st : St} {a : Act} {w : World} (h : RelSt n c st a w) (x : Operand) : RelV c (st.ev x) (a.eval x) := by
  cases x with
  | tmp t => exact h.slots t
  | const v => exact .ofVal c v
  | global g => exact .junk _
  | func f => exact .fn (vs := []) rfl (fun i hi => by simp at hi)
theorem lk_put (sl : List (Nat × AVal)) (t i : Nat) (a : AVal) : lk ((t, a) :: sl) i = if t = i then a else lk sl i := by
  by_cases h : t = i
  · simp [lk, h]
  · have : (t == i) = false := by simpa using h
    simp [lk, h, this]
theorem RelSt.put {n : Nat} {c c' : Ctx} {st : St} {a : Act} {w w' : World} (h : RelSt n c st a w) (he : Ext c c') (dst : Option Nat) (hd : ∀ t, dst = some t → t < st.N)
    {r : AVal} {v : Value} (hr : RelV c' r v) {b l : List ABox} (hb : b.length = n) (hh : RelH c' (b ++ l) w') : RelSt n c' (({ st with base := b, loc := l } : St).put dst r) (a.put dst v) w' := by
  cases dst with
  | none => exact ⟨h.defers, h.size, fun t => (h.slots t).ext he, hh, hb⟩
  | some t =>
    refine ⟨h.defers, ?_, fun i => ?_, hh, hb⟩
    · show (a.tmps.setIfInBounds t v).size = _
      rw [Array.size_setIfInBounds]; exact h.size
    · show RelV c' (lk ((t, r) :: st.slots) i) ((a.tmps.setIfInBounds t v).getD i undef)
      rw [lk_put]
      by_cases e : t = i
      · subst e
        have ht := hd t rfl
        rw [if_pos rfl]
        have : (a.tmps.setIfInBounds t v).getD t undef = v := by
          have h2 : t < a.tmps.size := by rw [h.size]; exact ht
          simp [h2]
        rw [this]; exact hr
      · rw [if_neg e]
        have : (a.tmps.setIfInBounds t v).getD i undef = a.tmps.getD i undef := by
          simp [Array.getElem?_setIfInBounds, e]
        rw [this]; exact (h.slots i).ext he
/-! ### The program's types, as tables; that the tables are right -/
structure Env where
  sl : TypeId → Option ETy
  var : TypeId → Option (Bool × Nat)
  fld : TypeId → Nat → Option Nat
  zero : TypeId → Option (List Value)
  knd : TypeId → Option TypeDesc
  bld : TypeId → Option (List (Nat × Nat))
  pts : TypeId → Bool
  mp : TypeId → Option (KK × Value)
  byt : TypeId → Bool
  ifc : TypeId → Bool
/-- The place of a key among a map's entries, and its element. -/
def lookK (kk : KK) (k : kk.T) : List (kk.T × Value) → Nat → Option (Nat × Value)
  | [], _ => none
  | x :: r, i => if k = x.1 then some (i, x.2) else lookK kk k r (i + 1)
/-- What the model does at a key of this type. -/
def KeyLaw (P : Program) (kk : KK) (kt : TypeId) : Prop := ∀ (k : kk.T) w, (∀ e, (Instr.checkKey e 10000 kt (kk.val k)).run P w = .ok () w) ∧
  ∀ es, (Instr.findKey kt (kk.val k) (entsF kk 0 es)).run P w = .ok (lookK kk k es 0) w
structure EnvOk (P : Program) (E : Env) : Prop where
  sl : ∀ t e, E.sl t = some e → ∃ et i z, P.underlying t = some (.slice et) ∧ P.info? et = some i ∧ i.size = e.sz ∧ i.zero = some z ∧ z.cells.size = e.sz ∧ i.bytes ≤ 64 ∧
    ∀ j, j < e.sz → (e.enc e.d).getD j .junk = .v (z.cells.toList.getD j undef) ∨ ∃ e', (e.enc e.d).getD j .junk = .rd e' [] ∧ z.cells.toList.getD j undef = .slice none 0 0
  var : ∀ t a s, E.var t = some (a, s) → ∃ d i, P.underlying t = some d ∧ (match d with | .struct _ | .array _ _ => true | _ => false) = a ∧ P.info? t = some i ∧ i.size = s
  fld : ∀ t f o, E.fld t f = some o → ∃ fs fl i, P.underlying t = some (.struct fs) ∧ fs[f]? = some fl ∧ fl.offset = o ∧ P.info? fl.type = some i ∧ i.size ≠ 0
  zero : ∀ t cs, E.zero t = some cs → ∃ i z, P.info? t = some i ∧ i.zero = some z ∧ z.cells.toList = cs
  knd : ∀ t d, E.knd t = some d → P.underlying t = some d
  bld : ∀ t l, E.bld t = some l → ∀ (parts : Array (Nat × Value)) w, ∃ i z, P.info? t = some i ∧ i.zero = some z ∧
    ∀ cells, Instr.fill (fun k => l[k]?) z.cells parts.toList = some cells → (Instr.build t parts).run P w = .ok (.agg cells) w
  pts : ∀ t, E.pts t = true → ∀ (a b c d : Int) w, (Op.equal t (.agg #[.int .i64 a, .int .i64 b]) (.agg #[.int .i64 c, .int .i64 d])).run P w = .ok (decide (a = c ∧ b = d)) w ∧
    ∀ x y op, (eqGuard op t x y (.agg #[.int .i64 a, .int .i64 b]) (.agg #[.int .i64 c, .int .i64 d])).run P w = .ok () w
  mp : ∀ t kk z, E.mp t = some (kk, z) → ∃ kt et i, P.underlying t = some (.map kt et) ∧ KeyLaw P kk kt ∧ P.info? et = some i ∧ i.zero = some z
  byt : ∀ t, E.byt t = true → ∃ et, P.underlying t = some (.slice et) ∧ P.underlying et = some (.int .u8)
  ifc : ∀ t, E.ifc t = true → ∃ ms, P.underlying t = some (.interface ms)
/-- The box with this number. -/
def St.get (st : St) (k : Nat) : ABox := (st.base ++ st.loc).getD k .dead
def St.setBox (st : St) (k : Nat) (X : ABox) (K : List ABox → List ABox → Prop) : Prop :=
  if k < st.base.length then K (st.base.set k X) st.loc else K st.base (st.loc.set (k - st.base.length) X)
def St.next (st : St) : Nat := st.base.length + st.loc.length
def AVal.flat : AVal → Option (List AVal)
  | .agg cs => some cs
  | .v (.agg _) | .v (.tuple _) => none
  | .junk | .tup _ => none
  | a => some [a]
def cellsOk (cs : List AVal) : Bool := cs.all AVal.cell
def bitAnd (i : IntKind) (a b : Int) : Int := i.wrap (BitVec.ofInt i.bits a &&& BitVec.ofInt i.bits b).toNat
def bitOr (i : IntKind) (a b : Int) : Int := i.wrap (BitVec.ofInt i.bits a ||| BitVec.ofInt i.bits b).toNat
def bitXor (i : IntKind) (a b : Int) : Int := i.wrap (BitVec.ofInt i.bits a ^^^ BitVec.ofInt i.bits b).toNat
def bitAndNot (i : IntKind) (a b : Int) : Int := i.wrap (BitVec.ofInt i.bits a &&& ~~~(BitVec.ofInt i.bits b)).toNat
/-- Is it a literal? -/
def isC : Operand → Bool
  | .const _ => true
  | _ => false
def vBin (E : Env) (op : BinOp) (T : TypeId) (c : Bool) (x y : AVal) (k : AVal → Prop) : Prop :=
  match op, x, y with
  | .add, .v (.int i a), .v (.int j b) => i = j ∧ k (.v (.int i (i.wrap (a + b))))
  | .sub, .v (.int i a), .v (.int j b) => i = j ∧ k (.v (.int i (i.wrap (a - b))))
  | .mul, .v (.int i a), .v (.int j b) => i = j ∧ k (.v (.int i (i.wrap (a * b))))
  | .quo, .v (.int i a), .v (.int j b) => i = j ∧ b ≠ 0 ∧ k (.v (.int i (i.wrap (a.tdiv b))))
  | .rem, .v (.int i a), .v (.int j b) => i = j ∧ b ≠ 0 ∧ k (.v (.int i (a.tmod b)))
  | .eql, .v (.int i a), .v (.int j b) => i = j ∧ k (.v (.bool (decide (a = b))))
  | .neq, .v (.int i a), .v (.int j b) => i = j ∧ k (.v (.bool (decide (a ≠ b))))
  | .lss, .v (.int i a), .v (.int j b) => i = j ∧ k (.v (.bool (decide (a < b))))
  | .leq, .v (.int i a), .v (.int j b) => i = j ∧ k (.v (.bool (decide (a ≤ b))))
  | .gtr, .v (.int i a), .v (.int j b) => i = j ∧ k (.v (.bool (decide (b < a))))
  | .geq, .v (.int i a), .v (.int j b) => i = j ∧ k (.v (.bool (decide (b ≤ a))))
  | .eql, .v (.bool a), .v (.bool b) => E.knd T = some .bool ∧ k (.v (.bool (decide (a = b))))
  | .neq, .v (.bool a), .v (.bool b) => E.knd T = some .bool ∧ k (.v (.bool (decide (a ≠ b))))
  | .add, .v (.string a), .v (.string b) => a.size + b.size ≤ 9223372036854775807 ∧ k (.v (.string (a ++ b)))
  | .eql, .v (.string a), .v (.string b) => k (.v (.bool (decide (a = b))))
  | .neq, .v (.string a), .v (.string b) => k (.v (.bool (decide (a ≠ b))))
  | .eql, .agg [.v (.int .i64 a), .v (.int .i64 b)], .agg [.v (.int .i64 c), .v (.int .i64 d)] => E.pts T = true ∧ k (.v (.bool (decide (a = c ∧ b = d))))
  | .neq, .agg [.v (.int .i64 a), .v (.int .i64 b)], .agg [.v (.int .i64 c), .v (.int .i64 d)] => E.pts T = true ∧ k (.v (.bool (decide (¬ (a = c ∧ b = d)))))
  | .and, .v (.int i a), .v (.int j b) => i = j ∧ k (.v (.int i (bitAnd i a b)))
  | .or, .v (.int i a), .v (.int j b) => i = j ∧ k (.v (.int i (bitOr i a b)))
  | .andNot, .v (.int i a), .v (.int j b) => i = j ∧ k (.v (.int i (bitAndNot i a b)))
  | .xor, .v (.int i a), .v (.int j b) => i = j ∧ k (.v (.int i (bitXor i a b)))
  | .shl, .v (.int i a), .v (.int _ b) => 0 ≤ b ∧ k (.v (.int i (i.wrap (a * 2 ^ (min b.toNat i.bits)))))
  | .shr, .v (.int i a), .v (.int _ b) => 0 ≤ b ∧ k (.v (.int i (a.fdiv (2 ^ (min b.toNat i.bits)))))
  | .eql, .v (.iface _ _), .v .nilIface => E.ifc T = true ∧ k (.v (.bool false))
  | .neq, .v (.iface _ _), .v .nilIface => E.ifc T = true ∧ k (.v (.bool true))
  | .eql, .v .nilIface, .v .nilIface => E.ifc T = true ∧ c = true ∧ k (.v (.bool true))
  | .neq, .v .nilIface, .v .nilIface => E.ifc T = true ∧ c = true ∧ k (.v (.bool false))
  | .lss, .v (.string a), .v (.string b) => k (.v (.bool (Op.bytesLess a.toList b.toList)))
  | _, _, _ => False
def vUn (op : UnOp) (x : AVal) (k : AVal → Prop) : Prop :=
  match op, x with
  | .not, .v (.bool b) => k (.v (.bool !b))
  | .neg, .v (.int i a) => k (.v (.int i (i.wrap (0 - a))))
  | _, _ => False
def vPick (c a b : AVal) (k : AVal → Prop) : Prop :=
  match c with
  | .v (.bool t) => (t = true → k a) ∧ (t = false → k b)
  | _ => False
def vConv (E : Env) (src dst : TypeId) (x : AVal) (k : AVal → Prop) : Prop :=
  match E.knd src, E.knd dst, x with
  | some (.int _), some (.int j), .v (.int _ n) => k (.v (.int j (j.wrap n)))
  | _, some .string, .rd (.int .u8) xs => (E.byt src = true ∧ ∀ n ∈ xs, 0 ≤ n ∧ n < 256) ∧ k (.v (.string ⟨(xs.map fun n => UInt8.ofNat n.toNat).toArray⟩))
  | _, _, _ => False
/-- The cells from j on of an element whose cells are cs, as a value of a type: one cell, or a struct of so many. -/
def vPart (agg : Bool) (sz : Nat) (cs : List AVal) (j : Nat) (k : AVal → Prop) : Prop :=
  match agg with
  | true => j + sz ≤ cs.length ∧ k (.agg ((cs.drop j).take sz))
  | false => j < cs.length ∧ k (cs.getD j .junk)
def vLoad (E : Env) (T : TypeId) (st : St) (x : AVal) (k : AVal → Prop) : Prop :=
  match E.var T, x with
  | some (agg, sz), .ptr esz id i j =>
    match st.get id with
    | .box _ cs => i = 0 ∧ vPart agg sz cs j k
    | .row _ e xs => esz = e.sz ∧ i < xs.length ∧ vPart agg sz (e.enc (xs.getD i e.d)) j k
    | _ => False
  | some (agg, sz), .rp cs j => vPart agg sz cs j k
  | _, _ => False
def setRange (cs : List AVal) (j : Nat) (vs : List AVal) : List AVal := cs.take j ++ vs ++ cs.drop (j + vs.length)
def vStore (E : Env) (T : TypeId) (st : St) (x y : AVal) (k : List ABox → List ABox → Prop) : Prop :=
  match E.var T, x, y.flat with
  | some (_, sz), .ptr esz id i j, some vs =>
    vs.length = sz ∧ 0 < sz ∧ cellsOk vs = true ∧
    match st.get id with
    | .box false cs => i = 0 ∧ j + sz ≤ cs.length ∧ st.setBox id (.box false (setRange cs j vs)) k
    | .row false e xs => esz = e.sz ∧ i < xs.length ∧ j + sz ≤ e.sz ∧
      (match e.dec (setRange (e.enc (xs.getD i e.d)) j vs) with
       | some y => st.setBox id (.row false e (xs.set i y)) k
       | none => False)
    | _ => False
  | _, _, _ => False
def vIdxA (E : Env) (T : TypeId) (x i : AVal) (k : AVal → Prop) : Prop :=
  match E.sl T, x, i with
  | some e, .rd e' xs, .v (.int _ n) => e.sz = e'.sz ∧ (0 ≤ n ∧ n < xs.length) ∧ k (.rp (e'.enc (xs.getD n.toNat e'.d)) 0)
  | some e, .sl sz id off m, .v (.int _ n) => e.sz = sz ∧ (0 ≤ n ∧ n < m) ∧ k (.ptr sz id (off + n.toNat) 0)
  | _, _, _ => False
def byteAt (s : ByteArray) (n : Nat) : Int := ((s.data.getD n 0).toNat : Int)
def vIdx (E : Env) (T : TypeId) (x i : AVal) (k : AVal → Prop) : Prop :=
  match E.knd T, x, i with
  | some .string, .v (.string s), .v (.int _ n) => (0 ≤ n ∧ n < s.size) ∧ k (.v (.int .u8 (byteAt s n.toNat)))
  | _, _, _ => False
def vFldA (E : Env) (T : TypeId) (f : Nat) (x : AVal) (k : AVal → Prop) : Prop :=
  match E.fld T f, x with
  | some o, .ptr sz id i j => k (.ptr sz id i (j + o))
  | some o, .rp cs j => k (.rp cs (j + o))
  | _, _ => False
def vExt (x : AVal) (i : Nat) (k : AVal → Prop) : Prop :=
  match x with
  | .tup cs => i < cs.length ∧ k (cs.getD i .junk)
  | _ => False
def vLen (E : Env) (T : TypeId) (x : AVal) (k : AVal → Prop) : Prop :=
  match E.knd T, E.sl T, x with
  | some .string, _, .v (.string s) => k (.v (.int .i64 s.size))
  | _, some _, .rd _ xs => k (.v (.int .i64 xs.length))
  | _, some _, .sl _ _ _ n => k (.v (.int .i64 n))
  | _, some _, .v (.slice none 0 0) => k (.v (.int .i64 0))
  | _, _, _ => False
def vMin (mx : Bool) (x y : AVal) (k : AVal → Prop) : Prop :=
  match x, y with
  | .v (.int i a), .v (.int j b) => i = j ∧ k (.v (.int i (if mx then max a b else min a b)))
  | _, _ => False
def vNil (x : AVal) (k : AVal → Prop) : Prop :=
  match x with
  | .ptr .. | .rp .. | .fn .. => k x
  | _ => False
end Go.Eng
end

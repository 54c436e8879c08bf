/- The engine, part B: abstract states, what one operation does to them, and that the machine does the same. -/
import Derived.Test.YtlgagjboijkpgaaDoorEngA
set_option linter.unusedSimpArgs false
set_option linter.unusedVariables false
namespace Go.Eng

structure St where
  N : Nat
  slots : List (Nat × AVal)
  base : List ABox
  loc : List ABox

def lk : List (Nat × AVal) → Nat → AVal
  | [], _ => .junk
  | (k, a) :: r, t => bif k == t then a else lk r t

def AVal.ofVal : Value → AVal
  | .agg cs => .agg (cs.toList.map .v)
  | .tuple cs => .tup (cs.toList.map .v)
  | x => .v x

def St.ev (st : St) : Operand → AVal
  | .tmp t => lk st.slots t
  | .const x => .ofVal x
  | .func f => .fn f []
  | .global _ => .junk

def St.put (st : St) : Option Nat → AVal → St
  | none, _ => st
  | some t, a => { st with slots := (t, a) :: st.slots }

structure RelSt (n : Nat) (c : Ctx) (st : St) (a : Act) (w : World) : Prop where
  defers : a.defers = []
  size : a.tmps.size = st.N
  slots : ∀ t, RelV c (lk st.slots t) (a.tmps.getD t undef)
  heap : RelH c (st.base ++ st.loc) w
  hn : st.base.length = n

theorem getD_map_v (l : List Value) (i : Nat) (h : i < l.length) : (l.map AVal.v).getD i .junk = .v (l.getD i undef) := by
  simp [List.getD, h]
theorem RelV.ofVal (c : Ctx) (x : Value) : RelV c (.ofVal x) x := by
  cases x with
  | agg cs => exact .agg (vs := cs.toList) (by simp) (fun i hi => by rw [getD_map_v _ _ (by simpa using hi)]; exact .v _)
  | tuple cs => exact .tup (vs := cs.toList) (by simp) (fun i hi => by rw [getD_map_v _ _ (by simpa using hi)]; exact .v _)
  | _ => exact .v _

theorem RelSt.ev {n : Nat} {c : Ctx} {st : St} {a : Act} {w : World} (h : RelSt n c st a w) (x : Operand) : RelV c (st.ev x) (a.eval x) := by
  cases x with
  | tmp t => exact h.slots t
  | const v => exact .ofVal c v
  | global g => exact .junk _
  | func f => exact .fn (vs := []) rfl (fun i hi => by simp at hi)

theorem lk_put (sl : List (Nat × AVal)) (t i : Nat) (a : AVal) : lk ((t, a) :: sl) i = if t = i then a else lk sl i := by
  by_cases h : t = i
  · simp [lk, h]
  · have : (t == i) = false := by simpa using h
    simp [lk, h, this]

theorem RelSt.put {n : Nat} {c c' : Ctx} {st : St} {a : Act} {w w' : World} (h : RelSt n c st a w) (he : Ext c c') (dst : Option Nat) (hd : ∀ t, dst = some t → t < st.N)
    {r : AVal} {v : Value} (hr : RelV c' r v) {b l : List ABox} (hb : b.length = n) (hh : RelH c' (b ++ l) w') : RelSt n c' (({ st with base := b, loc := l } : St).put dst r) (a.put dst v) w' := by
  cases dst with
  | none => exact ⟨h.defers, h.size, fun t => (h.slots t).ext he, hh, hb⟩
  | some t =>
    refine ⟨h.defers, ?_, fun i => ?_, hh, hb⟩
    · show (a.tmps.setIfInBounds t v).size = _
      rw [Array.size_setIfInBounds]; exact h.size
    · show RelV c' (lk ((t, r) :: st.slots) i) ((a.tmps.setIfInBounds t v).getD i undef)
      rw [lk_put]
      by_cases e : t = i
      · subst e
        have ht := hd t rfl
        rw [if_pos rfl]
        have : (a.tmps.setIfInBounds t v).getD t undef = v := by
          have h2 : t < a.tmps.size := by rw [h.size]; exact ht
          simp [h2]
        rw [this]; exact hr
      · rw [if_neg e]
        have : (a.tmps.setIfInBounds t v).getD i undef = a.tmps.getD i undef := by
          simp [Array.getElem?_setIfInBounds, e]
        rw [this]; exact (h.slots i).ext he

/-! ### The program's types, as tables; that the tables are right -/
structure Env where
  sl : TypeId → Option ETy
  var : TypeId → Option (Bool × Nat)
  fld : TypeId → Nat → Option Nat
  zero : TypeId → Option (List Value)
  knd : TypeId → Option TypeDesc
  bld : TypeId → Option (List (Nat × Nat))
  pts : TypeId → Bool
  mp : TypeId → Option (KK × Value)
  byt : TypeId → Bool
  ifc : TypeId → Bool

/-- The place of a key among a map's entries, and its element. -/
def lookK (kk : KK) (k : kk.T) : List (kk.T × Value) → Nat → Option (Nat × Value)
  | [], _ => none
  | x :: r, i => if k = x.1 then some (i, x.2) else lookK kk k r (i + 1)
/-- What the model does at a key of this type. -/
def KeyLaw (P : Program) (kk : KK) (kt : TypeId) : Prop := ∀ (k : kk.T) w, (∀ e, (Instr.checkKey e 10000 kt (kk.val k)).run P w = .ok () w) ∧
  ∀ es, (Instr.findKey kt (kk.val k) (entsF kk 0 es)).run P w = .ok (lookK kk k es 0) w

structure EnvOk (P : Program) (E : Env) : Prop where
  sl : ∀ t e, E.sl t = some e → ∃ et i z, P.underlying t = some (.slice et) ∧ P.info? et = some i ∧ i.size = e.sz ∧ i.zero = some z ∧ z.cells.size = e.sz ∧ i.bytes ≤ 64 ∧
    ∀ j, j < e.sz → (e.enc e.d).getD j .junk = .v (z.cells.toList.getD j undef) ∨ ∃ e', (e.enc e.d).getD j .junk = .rd e' [] ∧ z.cells.toList.getD j undef = .slice none 0 0
  var : ∀ t a s, E.var t = some (a, s) → ∃ d i, P.underlying t = some d ∧ (match d with | .struct _ | .array _ _ => true | _ => false) = a ∧ P.info? t = some i ∧ i.size = s
  fld : ∀ t f o, E.fld t f = some o → ∃ fs fl i, P.underlying t = some (.struct fs) ∧ fs[f]? = some fl ∧ fl.offset = o ∧ P.info? fl.type = some i ∧ i.size ≠ 0
  zero : ∀ t cs, E.zero t = some cs → ∃ i z, P.info? t = some i ∧ i.zero = some z ∧ z.cells.toList = cs
  knd : ∀ t d, E.knd t = some d → P.underlying t = some d
  bld : ∀ t l, E.bld t = some l → ∀ (parts : Array (Nat × Value)) w, ∃ i z, P.info? t = some i ∧ i.zero = some z ∧
    ∀ cells, Instr.fill (fun k => l[k]?) z.cells parts.toList = some cells → (Instr.build t parts).run P w = .ok (.agg cells) w
  pts : ∀ t, E.pts t = true → ∀ (a b c d : Int) w, (Op.equal t (.agg #[.int .i64 a, .int .i64 b]) (.agg #[.int .i64 c, .int .i64 d])).run P w = .ok (decide (a = c ∧ b = d)) w ∧
    ∀ x y op, (eqGuard op t x y (.agg #[.int .i64 a, .int .i64 b]) (.agg #[.int .i64 c, .int .i64 d])).run P w = .ok () w
  mp : ∀ t kk z, E.mp t = some (kk, z) → ∃ kt et i, P.underlying t = some (.map kt et) ∧ KeyLaw P kk kt ∧ P.info? et = some i ∧ i.zero = some z
  byt : ∀ t, E.byt t = true → ∃ et, P.underlying t = some (.slice et) ∧ P.underlying et = some (.int .u8)
  ifc : ∀ t, E.ifc t = true → ∃ ms, P.underlying t = some (.interface ms)

/-- The box with this number. -/
def St.get (st : St) (k : Nat) : ABox := (st.base ++ st.loc).getD k .dead
def St.setBox (st : St) (k : Nat) (X : ABox) (K : List ABox → List ABox → Prop) : Prop :=
  if k < st.base.length then K (st.base.set k X) st.loc else K st.base (st.loc.set (k - st.base.length) X)
def St.next (st : St) : Nat := st.base.length + st.loc.length

def AVal.flat : AVal → Option (List AVal)
  | .agg cs => some cs
  | .v (.agg _) | .v (.tuple _) => none
  | .junk | .tup _ => none
  | a => some [a]
def cellsOk (cs : List AVal) : Bool := cs.all AVal.cell

def bitAnd (i : IntKind) (a b : Int) : Int := i.wrap (BitVec.ofInt i.bits a &&& BitVec.ofInt i.bits b).toNat
def bitOr (i : IntKind) (a b : Int) : Int := i.wrap (BitVec.ofInt i.bits a ||| BitVec.ofInt i.bits b).toNat
def bitXor (i : IntKind) (a b : Int) : Int := i.wrap (BitVec.ofInt i.bits a ^^^ BitVec.ofInt i.bits b).toNat
def bitAndNot (i : IntKind) (a b : Int) : Int := i.wrap (BitVec.ofInt i.bits a &&& ~~~(BitVec.ofInt i.bits b)).toNat
/-- Is it a literal? -/
def isC : Operand → Bool
  | .const _ => true
  | _ => false
def vBin (E : Env) (op : BinOp) (T : TypeId) (c : Bool) (x y : AVal) (k : AVal → Prop) : Prop :=
  match op, x, y with
  | .add, .v (.int i a), .v (.int j b) => i = j ∧ k (.v (.int i (i.wrap (a + b))))
  | .sub, .v (.int i a), .v (.int j b) => i = j ∧ k (.v (.int i (i.wrap (a - b))))
  | .mul, .v (.int i a), .v (.int j b) => i = j ∧ k (.v (.int i (i.wrap (a * b))))
  | .quo, .v (.int i a), .v (.int j b) => i = j ∧ b ≠ 0 ∧ k (.v (.int i (i.wrap (a.tdiv b))))
  | .rem, .v (.int i a), .v (.int j b) => i = j ∧ b ≠ 0 ∧ k (.v (.int i (a.tmod b)))
  | .eql, .v (.int i a), .v (.int j b) => i = j ∧ k (.v (.bool (decide (a = b))))
  | .neq, .v (.int i a), .v (.int j b) => i = j ∧ k (.v (.bool (decide (a ≠ b))))
  | .lss, .v (.int i a), .v (.int j b) => i = j ∧ k (.v (.bool (decide (a < b))))
  | .leq, .v (.int i a), .v (.int j b) => i = j ∧ k (.v (.bool (decide (a ≤ b))))
  | .gtr, .v (.int i a), .v (.int j b) => i = j ∧ k (.v (.bool (decide (b < a))))
  | .geq, .v (.int i a), .v (.int j b) => i = j ∧ k (.v (.bool (decide (b ≤ a))))
  | .eql, .v (.bool a), .v (.bool b) => E.knd T = some .bool ∧ k (.v (.bool (decide (a = b))))
  | .neq, .v (.bool a), .v (.bool b) => E.knd T = some .bool ∧ k (.v (.bool (decide (a ≠ b))))
  | .add, .v (.string a), .v (.string b) => a.size + b.size ≤ 9223372036854775807 ∧ k (.v (.string (a ++ b)))
  | .eql, .v (.string a), .v (.string b) => k (.v (.bool (decide (a = b))))
  | .neq, .v (.string a), .v (.string b) => k (.v (.bool (decide (a ≠ b))))
  | .eql, .agg [.v (.int .i64 a), .v (.int .i64 b)], .agg [.v (.int .i64 c), .v (.int .i64 d)] => E.pts T = true ∧ k (.v (.bool (decide (a = c ∧ b = d))))
  | .neq, .agg [.v (.int .i64 a), .v (.int .i64 b)], .agg [.v (.int .i64 c), .v (.int .i64 d)] => E.pts T = true ∧ k (.v (.bool (decide (¬ (a = c ∧ b = d)))))
  | .and, .v (.int i a), .v (.int j b) => i = j ∧ k (.v (.int i (bitAnd i a b)))
  | .or, .v (.int i a), .v (.int j b) => i = j ∧ k (.v (.int i (bitOr i a b)))
  | .andNot, .v (.int i a), .v (.int j b) => i = j ∧ k (.v (.int i (bitAndNot i a b)))
  | .xor, .v (.int i a), .v (.int j b) => i = j ∧ k (.v (.int i (bitXor i a b)))
  | .shl, .v (.int i a), .v (.int _ b) => 0 ≤ b ∧ k (.v (.int i (i.wrap (a * 2 ^ (min b.toNat i.bits)))))
  | .shr, .v (.int i a), .v (.int _ b) => 0 ≤ b ∧ k (.v (.int i (a.fdiv (2 ^ (min b.toNat i.bits)))))
  | .eql, .v (.iface _ _), .v .nilIface => E.ifc T = true ∧ k (.v (.bool false))
  | .neq, .v (.iface _ _), .v .nilIface => E.ifc T = true ∧ k (.v (.bool true))
  | .eql, .v .nilIface, .v .nilIface => E.ifc T = true ∧ c = true ∧ k (.v (.bool true))
  | .neq, .v .nilIface, .v .nilIface => E.ifc T = true ∧ c = true ∧ k (.v (.bool false))
  | _, _, _ => False

def vUn (op : UnOp) (x : AVal) (k : AVal → Prop) : Prop :=
  match op, x with
  | .not, .v (.bool b) => k (.v (.bool !b))
  | .neg, .v (.int i a) => k (.v (.int i (i.wrap (0 - a))))
  | _, _ => False

def vPick (c a b : AVal) (k : AVal → Prop) : Prop :=
  match c with
  | .v (.bool t) => (t = true → k a) ∧ (t = false → k b)
  | _ => False

def vConv (E : Env) (src dst : TypeId) (x : AVal) (k : AVal → Prop) : Prop :=
  match E.knd src, E.knd dst, x with
  | some (.int _), some (.int j), .v (.int _ n) => k (.v (.int j (j.wrap n)))
  | _, some .string, .rd (.int .u8) xs => (E.byt src = true ∧ ∀ n ∈ xs, 0 ≤ n ∧ n < 256) ∧ k (.v (.string ⟨(xs.map fun n => UInt8.ofNat n.toNat).toArray⟩))
  | _, _, _ => False

/-- The cells from j on of an element whose cells are cs, as a value of a type: one cell, or a struct of so many. -/
def vPart (agg : Bool) (sz : Nat) (cs : List AVal) (j : Nat) (k : AVal → Prop) : Prop :=
  match agg with
  | true => j + sz ≤ cs.length ∧ k (.agg ((cs.drop j).take sz))
  | false => j < cs.length ∧ k (cs.getD j .junk)

def vLoad (E : Env) (T : TypeId) (st : St) (x : AVal) (k : AVal → Prop) : Prop :=
  match E.var T, x with
  | some (agg, sz), .ptr esz id i j =>
    match st.get id with
    | .box _ cs => i = 0 ∧ vPart agg sz cs j k
    | .row _ e xs => esz = e.sz ∧ i < xs.length ∧ vPart agg sz (e.enc (xs.getD i e.d)) j k
    | _ => False
  | some (agg, sz), .rp cs j => vPart agg sz cs j k
  | _, _ => False

def setRange (cs : List AVal) (j : Nat) (vs : List AVal) : List AVal := cs.take j ++ vs ++ cs.drop (j + vs.length)

def vStore (E : Env) (T : TypeId) (st : St) (x y : AVal) (k : List ABox → List ABox → Prop) : Prop :=
  match E.var T, x, y.flat with
  | some (_, sz), .ptr esz id i j, some vs =>
    vs.length = sz ∧ 0 < sz ∧ cellsOk vs = true ∧
    match st.get id with
    | .box false cs => i = 0 ∧ j + sz ≤ cs.length ∧ st.setBox id (.box false (setRange cs j vs)) k
    | .row false e xs => esz = e.sz ∧ i < xs.length ∧ j + sz ≤ e.sz ∧
      (match e.dec (setRange (e.enc (xs.getD i e.d)) j vs) with
       | some y => st.setBox id (.row false e (xs.set i y)) k
       | none => False)
    | _ => False
  | _, _, _ => False

def vIdxA (E : Env) (T : TypeId) (x i : AVal) (k : AVal → Prop) : Prop :=
  match E.sl T, x, i with
  | some e, .rd e' xs, .v (.int _ n) => e = e' ∧ (0 ≤ n ∧ n < xs.length) ∧ k (.rp (e'.enc (xs.getD n.toNat e'.d)) 0)
  | some e, .sl sz id off m, .v (.int _ n) => e.sz = sz ∧ (0 ≤ n ∧ n < m) ∧ k (.ptr sz id (off + n.toNat) 0)
  | _, _, _ => False

def byteAt (s : ByteArray) (n : Nat) : Int := ((s.data.getD n 0).toNat : Int)
def vIdx (E : Env) (T : TypeId) (x i : AVal) (k : AVal → Prop) : Prop :=
  match E.knd T, x, i with
  | some .string, .v (.string s), .v (.int _ n) => (0 ≤ n ∧ n < s.size) ∧ k (.v (.int .u8 (byteAt s n.toNat)))
  | _, _, _ => False

def vFldA (E : Env) (T : TypeId) (f : Nat) (x : AVal) (k : AVal → Prop) : Prop :=
  match E.fld T f, x with
  | some o, .ptr sz id i j => k (.ptr sz id i (j + o))
  | some o, .rp cs j => k (.rp cs (j + o))
  | _, _ => False

def vExt (x : AVal) (i : Nat) (k : AVal → Prop) : Prop :=
  match x with
  | .tup cs => i < cs.length ∧ k (cs.getD i .junk)
  | _ => False

def vLen (E : Env) (T : TypeId) (x : AVal) (k : AVal → Prop) : Prop :=
  match E.knd T, E.sl T, x with
  | some .string, _, .v (.string s) => k (.v (.int .i64 s.size))
  | _, some _, .rd _ xs => k (.v (.int .i64 xs.length))
  | _, some _, .sl _ _ _ n => k (.v (.int .i64 n))
  | _, some _, .v (.slice none 0 0) => k (.v (.int .i64 0))
  | _, _, _ => False

def vMin (mx : Bool) (x y : AVal) (k : AVal → Prop) : Prop :=
  match x, y with
  | .v (.int i a), .v (.int j b) => i = j ∧ k (.v (.int i (if mx then max a b else min a b)))
  | _, _ => False

def vNil (x : AVal) (k : AVal → Prop) : Prop :=
  match x with
  | .ptr .. | .rp .. | .fn .. => k x
  | _ => False

end Go.Eng

/- The engine, part Z: a state said between two pieces of code. -/
import Derived.Test.YtlgagjboijkpgaaDoorEngY
set_option linter.unusedSimpArgs false
set_option linter.unusedVariables false
namespace Go.Eng
variable {P : Program} {E : Env} {n : Nat} {Q : Exit → St → Prop} {st : St}
def midQ (n : Nat) (S : St) (Q : Exit → St → Prop) : Exit → St → Prop
  | .normal, st => Weak n st S
  | e, st => Q e st
/-- All ways through x meet in the state S. -/
theorem AW.mid {x y : Code} (S : St) (hx : AW P n x (midQ n S Q) st) (hy : AW P n y Q S) : AW P n (.seq x y) Q st := by
  refine AW.seq (hx.mono fun e st' h => ?_)
  cases e with
  | normal => exact AW.weak h hy
  | exit id => exact h
  | goto l => exact h
  | ret => exact h
  | panic ch => exact h
  | outgrown => exact h
theorem midQ_exit {id : Nat} {S st : St} (h : Q (.exit id) st) : midQ n S Q (.exit id) st := h
theorem midQ_ret {S st : St} (h : Q .ret st) : midQ n S Q .ret st := h

/-- Values of two lists, one by one. -/
def RenVL (n : Nat) (idx : List Nat) : List AVal → List AVal → Prop
  | [], [] => True
  | a :: r, b :: s => RenV n idx a b ∧ RenVL n idx r s
  | _, _ => False
theorem RenVL.spec {n : Nat} {idx : List Nat} : ∀ {l' l : List AVal}, RenVL n idx l' l → l'.length = l.length ∧ ∀ i, i < l.length → RenV n idx (l'.getD i .junk) (l.getD i .junk)
  | [], [], _ => ⟨rfl, fun i h => by simp at h⟩
  | [], _ :: _, h => h.elim
  | _ :: _, [], h => h.elim
  | a :: r, b :: s, h => by
    obtain ⟨g1, g2⟩ := RenVL.spec h.2
    refine ⟨by simp [g1], fun i hi => ?_⟩
    cases i with
    | zero => exact h.1
    | succ i => exact g2 i (by simpa using hi)
theorem RenB.of {n : Nat} {idx : List Nat} {ro : Bool} {cs' cs : List AVal} (h : RenVL n idx cs' cs) : RenB n idx (.box ro cs') (.box ro cs) := .box h.spec.1 h.spec.2
theorem RenV.fnL {n : Nat} {idx : List Nat} {f : FuncId} {cs' cs : List AVal} (h : RenVL n idx cs' cs) : RenV n idx (.fn f cs') (.fn f cs) := .fn h.spec.1 h.spec.2
theorem RenV.aggL {n : Nat} {idx : List Nat} {cs' cs : List AVal} (h : RenVL n idx cs' cs) : RenV n idx (.agg cs') (.agg cs) := .agg h.spec.1 h.spec.2
theorem RenV.tupL {n : Nat} {idx : List Nat} {cs' cs : List AVal} (h : RenVL n idx cs' cs) : RenV n idx (.tup cs') (.tup cs) := .tup h.spec.1 h.spec.2

/-! ### A callee that writes one of its caller's lists -/
theorem get_set {l l' : List ABox} {j : Nat} {X : ABox} (h : j < l.length) : ((l.set j X) ++ l').getD j .dead = X := by
  simp only [List.getD]
  rw [List.getElem?_append_left (by simpa using h)]
  simp [h]
theorem set_same {l : List ABox} {j : Nat} {X : ABox} (h : l[j]? = some X) : l.set j X = l := by
  obtain ⟨h1, h2⟩ := List.getElem?_eq_some_iff.1 h
  rw [← h2]; exact List.set_getElem_self h1
theorem set_again {l : List ABox} {j : Nat} {X Y : ABox} : (l.set j X).set j Y = l.set j Y := List.set_set ..
theorem FinOk.base {N : Nat} {sl : List (Nat × AVal)} {b : List ABox} {r : AVal} {m : Nat} : FinOk m ⟨N, sl, b, []⟩ r r b := fun c v w hn hv hh => ⟨c, .refl _ c, hv, by simpa using hh⟩
/-- A call of which something is known. -/
theorem vCall_ex {ι : Type} {Φ : ι → Prop} {F : ι → AVal} {L : ι → List ABox} {f : FuncId} {args : List AVal} {N : Nat} {s : List (Nat × AVal)} {b l : List ABox} {k : AVal → List ABox → List ABox → Prop}
    (h : AC P f args (b ++ l) (fun r H' => ∃ x, Φ x ∧ r = F x ∧ H' = b ++ L x)) (hk : ∀ x, Φ x → k (F x) b (L x)) : vCall P (.fn f []) args ⟨N, s, b, l⟩ k := by
  show AC P f (args ++ []) (b ++ l) _
  rw [List.append_nil]
  exact h.mono fun r H' ⟨x, h1, h2, h3⟩ => ⟨b, L x, h3, rfl, h2 ▸ hk x h1⟩
theorem bitAnd_255 (y : Int) : 0 ≤ bitAnd .u64 y 255 ∧ bitAnd .u64 y 255 ≤ 255 := by
  unfold bitAnd
  have h : (BitVec.ofInt IntKind.u64.bits y &&& BitVec.ofInt IntKind.u64.bits 255).toNat ≤ 255 := by
    rw [BitVec.toNat_and]
    exact Nat.le_trans Nat.and_le_right (by decide)
  generalize (BitVec.ofInt IntKind.u64.bits y &&& BitVec.ofInt IntKind.u64.bits 255).toNat = m at h
  simp [IntKind.wrap, IntKind.min, IntKind.max, IntKind.signed, IntKind.bits]
  omega
theorem get_set0 {l : List ABox} {j : Nat} {X : ABox} (h : j < l.length) : (l.set j X).getD j .dead = X := by simp [List.getD, h]
theorem base_len {H l : List ABox} {j : Nat} {X Y : ABox} : (H ++ l.set j X).length = (H ++ l.set j Y).length := by simp
theorem base_len0 {H l : List ABox} {j : Nat} {X : ABox} : (H ++ l.set j X).length = (H ++ l).length := by simp
theorem vCall_exB {ι : Type} {Φ : ι → Prop} {F : ι → AVal} {L : ι → List ABox} {f : FuncId} {args : List AVal} {N : Nat} {s : List (Nat × AVal)} {b l : List ABox} {k : AVal → List ABox → List ABox → Prop}
    (h : AC P f args (b ++ l) (fun r H' => ∃ x, Φ x ∧ r = F x ∧ H' = b ++ L x)) (hL : ∀ x, (L x).length = l.length) (hk : ∀ x, Φ x → k (F x) (b ++ L x) []) : vCall P (.fn f []) args ⟨N, s, b ++ l, []⟩ k := by
  show AC P f (args ++ []) ((b ++ l) ++ []) _
  rw [List.append_nil, List.append_nil]
  exact h.mono fun r H' ⟨x, h1, h2, h3⟩ => ⟨b ++ L x, [], by rw [h3, List.append_nil], by simp [hL x], h2 ▸ hk x h1⟩
end Go.Eng

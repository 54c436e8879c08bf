/- The engine, part W: values and boxes without numbers; what need not be renamed; more steps. -/
import Derived.Test.YtlgagjboijkpgaaDoorEngV
set_option linter.unusedSimpArgs false
set_option linter.unusedVariables false
namespace Go.Eng
variable {P : Program} {E : Env}

def ETy.plain : ETy → Bool
  | .own _ | .mix _ => false
  | _ => true
/-- No numbers in it. -/
inductive Pl : AVal → Prop where
  | v (x : Value) : Pl (.v x)
  | junk : Pl .junk
  | rd {e : ETy} (h : e.plain = true) (xs : List e.T) : Pl (.rd e xs)
  | agg {cs : List AVal} (h : ∀ x ∈ cs, Pl x) : Pl (.agg cs)
  | tup {cs : List AVal} (h : ∀ x ∈ cs, Pl x) : Pl (.tup cs)
  | rp {cs : List AVal} {j : Nat} (h : ∀ x ∈ cs, Pl x) : Pl (.rp cs j)
  | fn {f : FuncId} {cs : List AVal} (h : ∀ x ∈ cs, Pl x) : Pl (.fn f cs)
theorem pl_nil : ∀ x ∈ ([] : List AVal), Pl x := fun x h => by simp at h
theorem pl_cons {a : AVal} {l : List AVal} (h : Pl a) (k : ∀ x ∈ l, Pl x) : ∀ x ∈ a :: l, Pl x := fun x hx => by
  rcases List.mem_cons.1 hx with rfl | hx
  · exact h
  · exact k x hx
theorem ETy.enc_ids {n : Nat} : ∀ (e : ETy) (h : e.plain = true) (x : e.T) (j : Nat), j < e.sz → IdsLt n ((e.enc x).getD j .junk)
  | .int k, _, x, j, hj => by
    have : j = 0 := by simpa [ETy.sz] using hj
    subst this; exact .v _
  | .bool, _, x, j, hj => by
    have : j = 0 := by simpa [ETy.sz] using hj
    subst this; exact .v _
  | .str, _, x, j, hj => by
    have : j = 0 := by simpa [ETy.sz] using hj
    subst this; exact .v _
  | .pt, _, x, j, hj => by
    have hj' : j < 2 := hj
    match j, hj' with
    | 0, _ => exact .v _
    | 1, _ => exact .v _
  | .sli k, _, x, j, hj => by
    have : j = 0 := by simpa [ETy.sz] using hj
    subst this
    exact .rd (fun i j hi hj => by
      have : j = 0 := by simpa [ETy.sz] using hj
      subst this; exact .v _)
  | .slb, _, x, j, hj => by
    have : j = 0 := by simpa [ETy.sz] using hj
    subst this
    exact .rd (fun i j hi hj => by
      have : j = 0 := by simpa [ETy.sz] using hj
      subst this; exact .v _)
  | .own _, h, _, _, _ => by cases h
  | .mix _, h, _, _, _ => by cases h
theorem Pl.ids {n : Nat} {a : AVal} (h : Pl a) : IdsLt n a := by
  have get : ∀ {cs : List AVal} {i : Nat}, i < cs.length → cs.getD i .junk ∈ cs := fun {cs i} hi => by
    simp only [List.getD, List.getElem?_eq_getElem hi, Option.getD_some]
    exact List.getElem_mem hi
  induction h with
  | v x => exact .v x
  | junk => exact .junk
  | rd h xs => exact .rd (fun i j hi hj => ETy.enc_ids _ h _ j hj)
  | agg h ih => exact .agg (fun i hi => ih _ (get hi))
  | tup h ih => exact .tup (fun i hi => ih _ (get hi))
  | rp h ih => exact .rp (fun i hi => ih _ (get hi))
  | fn h ih => exact .fn (fun i hi => ih _ (get hi))
theorem RenV.pl {n : Nat} {idx : List Nat} {a : AVal} (h : Pl a) : RenV n idx a a := .low h.ids
theorem RenB.plBox {n : Nat} {idx : List Nat} {ro : Bool} {cs : List AVal} (h : ∀ x ∈ cs, Pl x) : RenB n idx (.box ro cs) (.box ro cs) := .low (fun i hi => by
  have : cs.getD i .junk ∈ cs := by
    simp only [List.getD, List.getElem?_eq_getElem hi, Option.getD_some]
    exact List.getElem_mem hi
  exact (h _ this).ids)
theorem RenB.plRow {n : Nat} {idx : List Nat} {ro : Bool} {e : ETy} (h : e.plain = true) {xs : List e.T} : RenB n idx (.row ro e xs) (.row ro e xs) := .low (fun i j hi hj => ETy.enc_ids e h _ j hj)
theorem lk_here {t : Nat} {a : AVal} {r : List (Nat × AVal)} : lk ((t, a) :: r) t = a := by simp [lk]

/-- A call that writes boxes: what it returns is said outright. -/
theorem vCall_to {f : FuncId} {args : List AVal} {N : Nat} {s : List (Nat × AVal)} {b l l' : List ABox} {x : AVal} {k : AVal → List ABox → List ABox → Prop}
    (h : AC P f args (b ++ l) (fun r H' => r = x ∧ H' = b ++ l')) (hk : k x b l') : vCall P (.fn f []) args ⟨N, s, b, l⟩ k := by
  show AC P f (args ++ []) (b ++ l) _
  rw [List.append_nil]
  exact h.mono fun r H' ⟨e1, e2⟩ => ⟨b, l', e2, rfl, e1 ▸ hk⟩
theorem vCall_pureC {f : FuncId} {cap args : List AVal} {N : Nat} {s : List (Nat × AVal)} {b l : List ABox} {x : AVal} {k : AVal → List ABox → List ABox → Prop}
    (h : AC P f (args ++ cap) (b ++ l) (fun r H' => r = x ∧ H' = b ++ l)) (hk : k x b l) : vCall P (.fn f cap) args ⟨N, s, b, l⟩ k :=
  h.mono fun r H' ⟨e1, e2⟩ => ⟨b, l, e2, rfl, e1 ▸ hk⟩
theorem vCall_toC {f : FuncId} {cap args : List AVal} {N : Nat} {s : List (Nat × AVal)} {b l l' : List ABox} {x : AVal} {k : AVal → List ABox → List ABox → Prop}
    (h : AC P f (args ++ cap) (b ++ l) (fun r H' => r = x ∧ H' = b ++ l')) (hk : k x b l') : vCall P (.fn f cap) args ⟨N, s, b, l⟩ k :=
  h.mono fun r H' ⟨e1, e2⟩ => ⟨b, l', e2, rfl, e1 ▸ hk⟩
theorem vcC_to {f : FuncId} {args : List AVal} {N : Nat} {s : List (Nat × AVal)} {b l l' : List ABox} {x : AVal} {k : AVal → List ABox → List ABox → Prop}
    (h : AC P f args (b ++ l) (fun r H' => r = x ∧ H' = b ++ l')) (hk : k x b l') : vcC P f args ⟨N, s, b, l⟩ k := ⟨x, b, l', h, rfl, hk⟩

theorem v_bool {b : Bool} {p : Prop} [Decidable p] (h : b = true ↔ p) : AVal.v (.bool b) = AVal.v (.bool (decide p)) := by
  congr 2
  cases b <;> simp_all
theorem toNat_add (a b : Nat) : ((a : Int) + (b : Int)).toNat = a + b := by omega
end Go.Eng

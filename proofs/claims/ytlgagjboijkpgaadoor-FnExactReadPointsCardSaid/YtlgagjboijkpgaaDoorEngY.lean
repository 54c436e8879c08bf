/- The engine, part Y: lending, said for a walk; a callee over its caller's boxes. -/
import Derived.Test.YtlgagjboijkpgaaDoorEngX
set_option linter.unusedSimpArgs false
set_option linter.unusedVariables false
namespace Go.Eng
variable {P : Program} {E : Env}

theorem app_get {b l : List ABox} {j : Nat} : (b ++ l)[b.length + j]? = l[j]? := by
  rw [List.getElem?_append_right (by omega), Nat.add_sub_cancel_left]
theorem LendV.loc {b l : List ABox} {e : ETy} {xs : List e.T} {sz j m : Nat} (hs : sz = e.sz) (h : l[j]? = some (.row false e xs)) (hm : m = xs.length) : LendV (b ++ l) (.sl sz (b.length + j) 0 m) (.rd e xs) :=
  LendV.whole hs (app_get.trans h) hm
theorem LendV.part {b l : List ABox} {e : ETy} {xs : List e.T} {sz j off m : Nat} (hs : sz = e.sz) (h : l[j]? = some (.row false e xs)) (hm : off + m ≤ xs.length) : LendV (b ++ l) (.sl sz (b.length + j) off m) (.rd e ((xs.drop off).take m)) := by
  subst hs; exact .sl (app_get.trans h) hm
theorem AC.lend0 {f : FuncId} {args args' : List AVal} {H : List ABox} {X : AVal} (hH : NoRdH H) (ha : LendL H args args') (hX : NoRd X)
    (h : AC P f args' (killRows H) (fun r H' => r = X ∧ H' = killRows H)) : AC P f args H (fun r H' => r = X ∧ H' = H) := by
  have := AC.lend (new := []) hH ha hX (fun Z hZ => by simp at hZ) (h.mono fun r H' ⟨e1, e2⟩ => ⟨e1, by rw [e2, List.append_nil]⟩)
  exact this.mono fun r H' ⟨e1, e2⟩ => ⟨e1, by rw [e2, List.append_nil]⟩
theorem AC.lendN {f : FuncId} {args args' : List AVal} {H new : List ABox} {X X' : AVal} (hXX : X = X') (hH : NoRdH H) (ha : LendL H args args') (hX : NoRd X) (hnew : ∀ Z ∈ new, NoRdW Z)
    (h : AC P f args' (killRows H) (fun r H' => r = X ∧ H' = killRows H ++ new)) : AC P f args H (fun r H' => r = X' ∧ H' = H ++ new) := by
  subst hXX; exact AC.lend hH ha hX hnew h
theorem nordW_nil : ∀ Z ∈ ([] : List ABox), NoRdW Z := fun Z h => by simp at h
theorem nordW_cons {X : ABox} {l : List ABox} (h : NoRdW X) (k : ∀ Z ∈ l, NoRdW Z) : ∀ Z ∈ X :: l, NoRdW Z := fun Y hY => by
  rcases List.mem_cons.1 hY with rfl | hY
  · exact h
  · exact k Y hY
/-- A call that leaves new boxes; what it returns is said anew. -/
theorem vCall_newE {f : FuncId} {args : List AVal} {N : Nat} {s : List (Nat × AVal)} {b l new : List ABox} {x x' : AVal} {k : AVal → List ABox → List ABox → Prop}
    (h : AC P f args (b ++ l) (fun r H' => r = x ∧ H' = (b ++ l) ++ new)) (hx : x = x') (hk : k x' b (l ++ new)) : vCall P (.fn f []) args ⟨N, s, b, l⟩ k := by
  subst hx; exact vCall_new h hk
theorem vcC_newE {f : FuncId} {args : List AVal} {N : Nat} {s : List (Nat × AVal)} {b l new : List ABox} {x x' : AVal} {k : AVal → List ABox → List ABox → Prop}
    (h : AC P f args (b ++ l) (fun r H' => r = x ∧ H' = (b ++ l) ++ new)) (hx : x = x') (hk : k x' b (l ++ new)) : vcC P f args ⟨N, s, b, l⟩ k := by
  subst hx; exact ⟨x, b, l ++ new, h.mono fun r H' ⟨e1, e2⟩ => ⟨e1, by rw [e2, List.append_assoc]⟩, rfl, hk⟩

/-! ### A callee over its caller's boxes: b is below, l0 are the caller's -/
theorem get_bl {N : Nat} {s : List (Nat × AVal)} {b l0 l : List ABox} {j : Nat} : St.get ⟨N, s, b ++ l0, l⟩ (b.length + j) = (l0 ++ l).getD j .dead := by
  simp only [St.get, List.getD]
  rw [List.append_assoc, List.getElem?_append_right (by omega), Nat.add_sub_cancel_left]
theorem setBox_bl {N : Nat} {s : List (Nat × AVal)} {b l0 l : List ABox} {j : Nat} {X : ABox} {K : List ABox → List ABox → Prop} :
    St.setBox ⟨N, s, b ++ l0, l⟩ (b.length + j) X K = if j < l0.length then K (b ++ l0.set j X) l else K (b ++ l0) (l.set (j - l0.length) X) := by
  simp only [St.setBox, List.length_append]
  by_cases h : j < l0.length
  · rw [if_pos (by omega), if_pos h]
    congr 1
    rw [List.set_append, if_neg (by omega), Nat.add_sub_cancel_left]
  · rw [if_neg (by omega), if_neg h]
    congr 2; omega
theorem next_bl {N : Nat} {s : List (Nat × AVal)} {b l0 l : List ABox} : St.next ⟨N, s, b ++ l0, l⟩ = b.length + (l0.length + l.length) := by
  simp only [St.next, List.length_append]; omega

/-- The callee's boxes are handed over: the caller's keep their places, of the callee's own those that are chosen. -/
theorem FinOk.sel {N : Nat} {sl : List (Nat × AVal)} {b l0 l L' : List ABox} {r r' : AVal} {m : Nat} (idx : List Nat) (hB : BaseLt b.length b) (hm : m = (b ++ l0).length) (hnd : idx.Nodup) (hpre : ∀ j, j < l0.length → idx[j]? = some j)
    (hL : RenL b.length idx (l0 ++ l) L' idx) (hr : RenV b.length idx r' r) : FinOk m ⟨N, sl, b ++ l0, l⟩ r r' (b ++ L') := by
  subst hm
  intro c v w hn hv hh
  have hh2 : RelH c (b ++ (l0 ++ l)) w := by rw [← List.append_assoc]; exact hh
  refine ⟨c.sel b.length idx, ⟨⟨rfl, rfl, rfl, fun _ _ h => h⟩, fun k lo hk hlo => ?_⟩, hv.ren hr, hh2.sel hB rfl hL hnd⟩
  rcases Nat.lt_or_ge k b.length with h1 | h1
  · rw [Ctx.sel_low h1]; exact hlo
  · have h2 : k - b.length < l0.length := by simp at hk; omega
    have := Ctx.sel_loc (c := c) (n := b.length) (hpre _ h2)
    rw [show b.length + (k - b.length) = k by omega] at this
    rw [this]; exact hlo

/-- A call whose callee writes the caller's boxes. -/
theorem vCall_base {f : FuncId} {args cap : List AVal} {N : Nat} {s : List (Nat × AVal)} {b l l' : List ABox} {x : AVal} {k : AVal → List ABox → List ABox → Prop}
    (h : AC P f (args ++ cap) (b ++ l) (fun r H' => r = x ∧ H' = b ++ l')) (hk : k x b l') : vCall P (.fn f cap) args ⟨N, s, b, l⟩ k :=
  h.mono fun r H' ⟨e1, e2⟩ => ⟨b, l', e2, rfl, e1 ▸ hk⟩
end Go.Eng

/- The plain law of counting: a map of counts, a row of counts. -/
import Derived.Test.YtlgagjboijkpgaaDoorCP1
set_option linter.unusedSimpArgs false
set_option linter.unusedVariables false
namespace Go.Proofs.YtlgagjboijkpgaaDoor
open Go.Eng

/-- The numbers among the first i, each once. -/
def ksTo (zs : List Int) : Nat → List Int
  | 0 => []
  | i + 1 => if zs.getD i 0 ∈ ksTo zs i then ksTo zs i else ksTo zs i ++ [zs.getD i 0]
def cntTo (zs : List Int) (i : Nat) (k : Int) : Int := ((zs.take i).count k : Nat)
def entTo (zs : List Int) (i : Nat) : List ((KK.int .i64).T × Value) := (ksTo zs i).map fun k => (k, .int .i64 (cntTo zs i k))
theorem take_succ' {zs : List Int} {i : Nat} (h : i < zs.length) : zs.take (i + 1) = zs.take i ++ [zs.getD i 0] := by
  rw [List.take_add_one, List.getElem?_eq_getElem h]
  simp [List.getD, h]
theorem cntTo_succ {zs : List Int} {i : Nat} (h : i < zs.length) (k : Int) : cntTo zs (i + 1) k = if k = zs.getD i 0 then cntTo zs i k + 1 else cntTo zs i k := by
  unfold cntTo
  rw [take_succ' h, List.count_append, List.count_singleton]
  by_cases e : k = zs.getD i 0
  · rw [if_pos e, if_pos (by rw [e]; exact beq_self_eq_true _)]; push_cast; rfl
  · rw [if_neg e, if_neg (by rw [beq_iff_eq]; exact fun h => e h.symm)]; rfl
theorem cntTo_bnd (zs : List Int) (i : Nat) (k : Int) : 0 ≤ cntTo zs i k ∧ cntTo zs i k ≤ i := by
  unfold cntTo
  have := List.count_le_length (a := k) (l := zs.take i)
  have h2 : (zs.take i).length ≤ i := by simp; omega
  omega
theorem ksTo_mem {zs : List Int} : ∀ {i : Nat}, i ≤ zs.length → ∀ k, k ∈ ksTo zs i ↔ 0 < cntTo zs i k
  | 0, _, k => by simp [ksTo, cntTo]
  | i + 1, h, k => by
    have ih := ksTo_mem (zs := zs) (i := i) (by omega) k
    have h0 := (cntTo_bnd zs i k).1
    rw [cntTo_succ (by omega)]
    unfold ksTo
    split
    · rename_i hm
      rw [ih]
      split
      · rename_i e
        rw [← e] at hm
        have := ih.1 hm; omega
      · rfl
    · rw [List.mem_append, ih, List.mem_singleton]
      split
      · rename_i e; exact ⟨fun _ => by omega, fun _ => .inr e⟩
      · rename_i e; exact ⟨fun h => h.resolve_right e, fun h => .inl h⟩
theorem ksTo_nodup (zs : List Int) : ∀ i, (ksTo zs i).Nodup
  | 0 => List.nodup_nil
  | i + 1 => by
    have ih := ksTo_nodup zs i
    unfold ksTo
    split
    · exact ih
    · rename_i h
      rw [List.nodup_append]
      exact ⟨ih, by simp, fun a ha b hb e => h (by have hb' := List.mem_singleton.1 hb; rw [← hb', ← e]; exact ha)⟩
theorem idx_ne {x y : Int} {r : List Int} (e : ¬ x = y) : (y :: r).idxOf x = r.idxOf x + 1 := by
  have e' : (y == x) = false := by simpa using Ne.symm e
  simp [List.idxOf_cons, e']
theorem look_in (f : Int → Value) (x : Int) : ∀ (ks : List Int) (j : Nat), x ∈ ks → lookK (.int .i64) x (ks.map fun k => (k, f k)) j = some (j + ks.idxOf x, f x)
  | [], _, h => by simp at h
  | y :: r, j, h => by
    simp only [List.map_cons, lookK]
    by_cases e : x = y
    · subst e; simp
    · rw [if_neg e]
      rcases List.mem_cons.1 h with h | h
      · exact absurd h e
      · rw [look_in f x r (j + 1) h, idx_ne e]
        congr 2; omega
theorem look_out (f : Int → Value) (x : Int) : ∀ (ks : List Int) (j : Nat), x ∉ ks → lookK (.int .i64) x (ks.map fun k => (k, f k)) j = none
  | [], _, _ => rfl
  | y :: r, j, h => by
    simp only [List.map_cons, lookK]
    rw [if_neg (fun e => h (by rw [e]; exact List.mem_cons_self)), look_out f x r (j + 1) (fun hm => h (List.mem_cons_of_mem _ hm))]
theorem set_in (f : Int → Value) (x : Int) (v : Value) : ∀ (ks : List Int), ks.Nodup → x ∈ ks → setVK (.int .i64) v (ks.idxOf x) (ks.map fun k => (k, f k)) = ks.map fun k => (k, if k = x then v else f k)
  | [], _, h => by simp at h
  | y :: r, hn, h => by
    obtain ⟨h1, h2⟩ := List.nodup_cons.1 hn
    by_cases e : x = y
    · subst e
      simp only [List.idxOf_cons_self, List.map_cons, setVK, if_true, List.cons.injEq, true_and]
      refine List.map_congr_left fun k hk => ?_
      have hne : k ≠ x := fun e => h1 (by rw [← e]; exact hk)
      rw [if_neg hne]
    · rw [idx_ne e]
      rcases List.mem_cons.1 h with h | h
      · exact absurd h e
      · simp only [List.map_cons, setVK, if_neg (Ne.symm e), set_in f x v r h2 h]
/-- 'pins[n]++' where n is there. -/
theorem ent_in {zs : List Int} {i : Nat} (h : i < zs.length) (hm : zs.getD i 0 ∈ ksTo zs i) :
    setVK (.int .i64) (.int .i64 (cntTo zs i (zs.getD i 0) + 1)) ((ksTo zs i).idxOf (zs.getD i 0)) (entTo zs i) = entTo zs (i + 1) := by
  unfold entTo
  rw [set_in _ _ _ _ (ksTo_nodup zs i) hm]
  have : ksTo zs (i + 1) = ksTo zs i := by rw [ksTo, if_pos hm]
  rw [this]
  refine List.map_congr_left fun k hk => ?_
  rw [cntTo_succ h]
  by_cases e : k = zs.getD i 0
  · rw [if_pos e, if_pos e, e]
  · rw [if_neg e, if_neg e]
theorem setVK_last (v w : Value) (k : Int) : ∀ (es : List ((KK.int .i64).T × Value)), setVK (.int .i64) v es.length (es ++ [(k, w)]) = es ++ [(k, v)]
  | [] => rfl
  | x :: r => by simp [setVK, setVK_last v w k r]
theorem ent_out {zs : List Int} {i : Nat} (h : i < zs.length) (hm : zs.getD i 0 ∉ ksTo zs i) : entTo zs i ++ [(zs.getD i 0, .int .i64 1)] = entTo zs (i + 1) := by
  unfold entTo
  have : ksTo zs (i + 1) = ksTo zs i ++ [zs.getD i 0] := by rw [ksTo, if_neg hm]
  rw [this, List.map_append]
  have hc : cntTo zs i (zs.getD i 0) = 0 := by
    have h1 : ¬ 0 < cntTo zs i (zs.getD i 0) := fun hc => hm ((ksTo_mem (zs := zs) (i := i) (by omega) (zs.getD i 0)).2 hc)
    have h2 := (cntTo_bnd zs i (zs.getD i 0)).1
    omega
  congr 1
  · refine List.map_congr_left fun k hk => ?_
    have hne : k ≠ zs.getD i 0 := fun e => hm (by rw [← e]; exact hk)
    rw [cntTo_succ h, if_neg hne]
  · simp only [List.map_cons, List.map_nil]
    rw [cntTo_succ h, if_pos rfl, hc]; rfl
theorem cntTo_all (zs : List Int) (k : Int) : cntTo zs zs.length k = (zs.count k : Nat) := by unfold cntTo; rw [List.take_length]
/-- A row of counts. -/
def rowCnt (zs ys : List Int) (i : Nat) : List Int := (List.range 13).map fun k : Nat => cntTo zs i (k : Int) + cntTo ys i (k : Int)
theorem rowCnt_len (zs ys : List Int) (i : Nat) : (rowCnt zs ys i).length = 13 := by simp [rowCnt]
theorem rowCnt_getD (zs ys : List Int) (i : Nat) {k : Nat} (h : k < 13) : (rowCnt zs ys i).getD k 0 = cntTo zs i (k : Int) + cntTo ys i (k : Int) := by
  simp [rowCnt, List.getD, h]
theorem rowCnt_zero (zs ys : List Int) : rowCnt zs ys 0 = List.replicate 13 0 := by simp [rowCnt, cntTo, List.replicate, List.range, List.range.loop]
theorem rowCnt_step {zs ys : List Int} {i : Nat} (hz : i < zs.length) (hy : i < ys.length) (bz : 0 ≤ zs.getD i 0 ∧ zs.getD i 0 ≤ 12) (by' : 0 ≤ ys.getD i 0 ∧ ys.getD i 0 ≤ 12) :
    ((rowCnt zs ys i).set (zs.getD i 0).toNat ((rowCnt zs ys i).getD (zs.getD i 0).toNat 0 + 1)).set (ys.getD i 0).toNat
      ((((rowCnt zs ys i).set (zs.getD i 0).toNat ((rowCnt zs ys i).getD (zs.getD i 0).toNat 0 + 1)).getD (ys.getD i 0).toNat 0) + 1) = rowCnt zs ys (i + 1) := by
  apply List.ext_getElem?
  intro k
  by_cases hk : k < 13
  · have e1 : (rowCnt zs ys (i + 1))[k]? = some (cntTo zs (i + 1) k + cntTo ys (i + 1) k) := by simp [rowCnt, hk]
    have e2 : (rowCnt zs ys i)[k]? = some (cntTo zs i k + cntTo ys i k) := by simp [rowCnt, hk]
    rw [e1, cntTo_succ hz, cntTo_succ hy]
    have hz' : (zs.getD i 0).toNat < 13 := by omega
    have hy' : (ys.getD i 0).toNat < 13 := by omega
    have kz : ((zs.getD i 0).toNat = k) ↔ ((k : Int) = zs.getD i 0) := by omega
    have ky : ((ys.getD i 0).toNat = k) ↔ ((k : Int) = ys.getD i 0) := by omega
    rw [List.getElem?_set, List.getElem?_set, e2]
    simp only [List.length_set, rowCnt_len, hz', hy', if_true]
    by_cases a : (k : Int) = ys.getD i 0
    · rw [if_pos (ky.2 a), if_pos a]
      have e3 : (ys.getD i 0).toNat = k := ky.2 a
      rw [e3]
      by_cases b : (k : Int) = zs.getD i 0
      · have e4 : (zs.getD i 0).toNat = k := kz.2 b
        have g1 : ∀ w, ((rowCnt zs ys i).set k w).getD k 0 = w := fun w => by simp [List.getD, rowCnt_len, hk]
        rw [if_pos b, e4, g1, rowCnt_getD zs ys i hk]
        congr 1; omega
      · rw [if_neg b]
        have e4 : (zs.getD i 0).toNat ≠ k := fun e => b (kz.1 e)
        have g1 : ∀ w, ((rowCnt zs ys i).set (zs.getD i 0).toNat w).getD k 0 = (rowCnt zs ys i).getD k 0 := fun w => by rw [List.getD_eq_getElem?_getD, List.getElem?_set, if_neg e4, ← List.getD_eq_getElem?_getD]
        rw [g1, rowCnt_getD zs ys i hk]
        congr 1 <;> omega
    · rw [if_neg (fun e => a (ky.1 e)), if_neg a]
      by_cases b : (k : Int) = zs.getD i 0
      · rw [if_pos (kz.2 b), if_pos b]
        have e4 : (zs.getD i 0).toNat = k := kz.2 b
        rw [e4, rowCnt_getD zs ys i hk]
        congr 1; omega
      · rw [if_neg (fun e => b (kz.1 e)), if_neg b]
  · rw [List.getElem?_eq_none (by simp [rowCnt_len]; omega), List.getElem?_eq_none (by simp [rowCnt_len]; omega)]
theorem count_app (zs ys : List Int) (k : Int) : (((zs ++ ys).count k : Nat) : Int) = cntTo zs zs.length k + cntTo ys ys.length k := by
  rw [cntTo_all, cntTo_all, List.count_append]; push_cast; rfl
end Go.Proofs.YtlgagjboijkpgaaDoor

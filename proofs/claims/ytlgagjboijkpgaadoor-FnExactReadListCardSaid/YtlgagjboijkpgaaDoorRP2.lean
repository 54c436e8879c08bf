/- The plain law of texts cut at a mark; lists read; no program in sight. -/
import Derived.Test.YtlgagjboijkpgaaDoorRP1
import Derived.Lib.SplitLaws
set_option linter.unusedSimpArgs false
set_option linter.unusedVariables false
namespace Go.Proofs.YtlgagjboijkpgaaDoor
open Go.Lib Go.Eng

/-- Bytes set before the first part. -/
def glue (p : List UInt8) : List (List UInt8) → List (List UInt8)
  | [] => [p]
  | q :: qs => (p ++ q) :: qs
/-- The parts of a text between marks. -/
def pts (m : UInt8) : List UInt8 → List (List UInt8)
  | [] => [[]]
  | c :: l => if c = m then [] :: pts m l else glue [c] (pts m l)
def Free (m : UInt8) (p : List UInt8) : Prop := ∀ c ∈ p, c ≠ m
theorem pts_ne (m : UInt8) (l : List UInt8) : pts m l ≠ [] := by
  cases l with
  | nil => simp [pts]
  | cons c l =>
    unfold pts
    split
    · simp
    · cases pts m l <;> simp [glue]
theorem glue_glue (p q : List UInt8) {x : List (List UInt8)} (h : x ≠ []) : glue p (glue q x) = glue (p ++ q) x := by
  cases x with
  | nil => exact absurd rfl h
  | cons a r => simp [glue]
theorem glue_nil {x : List (List UInt8)} (h : x ≠ []) : glue [] x = x := by
  cases x with
  | nil => exact absurd rfl h
  | cons a r => simp [glue]
theorem pts_skip (m : UInt8) : ∀ (p l : List UInt8), Free m p → pts m (p ++ l) = glue p (pts m l)
  | [], l, _ => (glue_nil (pts_ne m l)).symm
  | c :: p, l, h => by
    have hc : c ≠ m := h c (List.mem_cons_self ..)
    have ih := pts_skip m p l (fun x hx => h x (List.mem_cons_of_mem _ hx))
    rw [List.cons_append]
    conv => lhs; unfold pts
    rw [if_neg hc, ih, glue_glue _ _ (pts_ne m l)]; rfl
theorem pts_free {m : UInt8} {p : List UInt8} (h : Free m p) : pts m p = [p] := by
  have := pts_skip m p [] h
  rw [List.append_nil] at this
  rw [this]; simp [pts, glue]
theorem pts_at {m : UInt8} {p l : List UInt8} (h : Free m p) : pts m (p ++ m :: l) = p :: pts m l := by
  rw [pts_skip m p _ h]
  simp [pts, glue]
theorem pts_len (m : UInt8) : ∀ (l : List UInt8), (pts m l).length ≤ l.length + 1
  | [] => by simp [pts]
  | c :: l => by
    have ih := pts_len m l
    unfold pts
    split
    · simp only [List.length_cons]; omega
    · cases e : pts m l with
      | nil => simp [glue]
      | cons a r => rw [e] at ih; simp only [glue, List.length_cons] at ih ⊢; omega
theorem pts_each (m : UInt8) : ∀ (l q : List UInt8), q ∈ pts m l → q.length ≤ l.length
  | [], q, h => by simp [pts] at h; subst h; simp
  | c :: l, q, h => by
    have ih := pts_each m l
    unfold pts at h
    split at h
    · rcases List.mem_cons.1 h with rfl | h
      · simp
      · have := ih q h; simp only [List.length_cons]; omega
    · cases e : pts m l with
      | nil => exact absurd e (pts_ne m l)
      | cons a r =>
        rw [e] at h ih
        simp only [glue] at h
        rcases List.mem_cons.1 h with rfl | h
        · have := ih a (List.mem_cons_self ..)
          simp; omega
        · have := ih q (List.mem_cons_of_mem _ h); simp only [List.length_cons]; omega
/-- Where a mark is first. -/
theorem idx1 (m : UInt8) : ∀ (l : List UInt8), (index l [m] = -1 ∧ Free m l) ∨ ∃ p r, l = p ++ m :: r ∧ Free m p ∧ index l [m] = (p.length : Int)
  | [] => .inl ⟨by simp [index], fun c h => by cases h⟩
  | b :: l => by
    by_cases hb : b = m
    · subst hb
      exact .inr ⟨[], l, rfl, (fun c h => by cases h), by rw [index]; simp [List.isPrefixOf]⟩
    · have hp : ([m] : List UInt8).isPrefixOf (b :: l) = false := by simp [List.isPrefixOf, Ne.symm hb]
      have hix : index (b :: l) [m] = if index l [m] == -1 then -1 else index l [m] + 1 := by rw [index, hp]; simp
      rcases idx1 m l with ⟨h1, h2⟩ | ⟨p, r, h1, h2, h3⟩
      · refine .inl ⟨by rw [hix, if_pos (by simp [h1])], fun c hc => ?_⟩
        rcases List.mem_cons.1 hc with rfl | hc
        · exact hb
        · exact h2 c hc
      · refine .inr ⟨b :: p, r, by rw [h1]; rfl, fun c hc => ?_, ?_⟩
        · rcases List.mem_cons.1 hc with rfl | hc
          · exact hb
          · exact h2 c hc
        · rw [hix, if_neg (by rw [h3, beq_iff_eq]; omega), h3]; simp
theorem cut_pts (m : UInt8) (l : List UInt8) : (Free m l ∧ cut l [m] = (l, [], false)) ∨ ∃ p r, l = p ++ m :: r ∧ Free m p ∧ cut l [m] = (p, r, true) := by
  rcases idx1 m l with ⟨h1, h2⟩ | ⟨p, r, h1, h2, h3⟩
  · refine .inl ⟨h2, ?_⟩
    unfold cut
    rw [if_neg (by omega)]
  · refine .inr ⟨p, r, h1, h2, ?_⟩
    unfold cut
    rw [if_pos (by omega), h3]
    subst h1
    simp
theorem splitK_pts (m : UInt8) : ∀ (k : Nat) (l : List UInt8), count l [m] = k → splitK [m] 0 k l = pts m l
  | 0, l, h => by
    rcases idx1 m l with ⟨h1, h2⟩ | ⟨p, r, h1, h2, h3⟩
    · rw [pts_free h2]; rfl
    · rw [count_hit (by simp) h3] at h; omega
  | k + 1, l, h => by
    rcases idx1 m l with ⟨h1, h2⟩ | ⟨p, r, h1, h2, h3⟩
    · rw [count_miss h1] at h; omega
    · have e : l.drop (p.length + ([m] : List UInt8).length) = r := by rw [h1]; simp
      have e2 : l.take (p.length + 0) = p := by rw [h1]; simp
      have hc := count_hit (s := l) (sub := [m]) (by simp) h3
      rw [e] at hc
      have ih := splitK_pts m k r (by omega)
      have ei : (index l [m]).toNat = p.length := by omega
      unfold splitK
      rw [if_neg (by rw [h3, beq_iff_eq]; omega), ei, e, e2, ih, h1, pts_at h2]
/-- The parts as texts. -/
def ptsS (m : UInt8) (s : ByteArray) : List ByteArray := (pts m s.data.toList).map fun l => ⟨l.toArray⟩
theorem ba_of (l : List UInt8) : (⟨l.toArray⟩ : ByteArray).data.toList = l := rfl
theorem ba_eta (s : ByteArray) : (⟨s.data.toList.toArray⟩ : ByteArray) = s := by
  apply ByteArray.ext; simp
theorem split_pts (m : UInt8) (s : ByteArray) : splitB ⟨#[m]⟩ 0 (countB s ⟨#[m]⟩) s = ptsS m s := by
  have h := splitB_data ⟨#[m]⟩ 0 (countB s ⟨#[m]⟩) s
  have hc : countB s ⟨#[m]⟩ = count s.data.toList [m] := rfl
  rw [show (⟨#[m]⟩ : ByteArray).data.toList = [m] from rfl, hc, splitK_pts m _ _ rfl] at h
  unfold ptsS
  rw [← h, List.map_map, hc]
  conv => lhs; rw [← List.map_id (splitB _ _ _ _)]
  refine List.map_congr_left fun b _ => ?_
  exact (ba_eta b).symm

/-! ### The reference's loop -/
/-- What the loop knows at i: the parts laid, and where the next one begins. -/
def CutAt (m : UInt8) (l : List UInt8) (i : Nat) (out : List (List UInt8)) (fr : Nat) : Prop := fr ≤ i ∧ i ≤ l.length ∧ Free m ((l.drop fr).take (i - fr)) ∧ pts m l = out ++ pts m (l.drop fr)
theorem CutAt.start (m : UInt8) (l : List UInt8) : CutAt m l 0 [] 0 := ⟨Nat.le_refl _, Nat.zero_le _, fun c h => by simp at h, rfl⟩
theorem CutAt.skip {m : UInt8} {l : List UInt8} {i fr : Nat} {out : List (List UInt8)} (h : CutAt m l i out fr) (hi : i < l.length) (hc : l[i] ≠ m) : CutAt m l (i + 1) out fr := by
  obtain ⟨h1, h2, h3, h4⟩ := h
  refine ⟨by omega, by omega, fun c hcm => ?_, h4⟩
  rw [show i + 1 - fr = (i - fr) + 1 by omega, List.take_add_one, List.getElem?_drop, show fr + (i - fr) = i by omega, List.getElem?_eq_getElem hi] at hcm
  rcases List.mem_append.1 hcm with hcm | hcm
  · exact h3 c hcm
  · simp at hcm; subst hcm; exact hc
theorem CutAt.at {m : UInt8} {l : List UInt8} {i fr : Nat} {out : List (List UInt8)} (h : CutAt m l i out fr) (hi : i < l.length) (hc : l[i] = m) : CutAt m l (i + 1) (out ++ [(l.drop fr).take (i - fr)]) (i + 1) := by
  obtain ⟨h1, h2, h3, h4⟩ := h
  refine ⟨Nat.le_refl _, by omega, fun c hcm => by simp at hcm, ?_⟩
  have e : l.drop fr = (l.drop fr).take (i - fr) ++ m :: l.drop (i + 1) := by
    conv => lhs; rw [← List.take_append_drop (i - fr) (l.drop fr)]
    rw [List.drop_drop, show fr + (i - fr) = i by omega, List.drop_eq_getElem_cons hi, hc]
  rw [h4, List.append_assoc]
  congr 1
  conv => lhs; rw [e]
  rw [pts_at h3]; rfl
theorem CutAt.done {m : UInt8} {l : List UInt8} {fr : Nat} {out : List (List UInt8)} (h : CutAt m l l.length out fr) : out ++ [(l.drop fr).take (l.length - fr)] = pts m l := by
  obtain ⟨h1, h2, h3, h4⟩ := h
  have e : (l.drop fr).take (l.length - fr) = l.drop fr := List.take_of_length_le (by simp)
  rw [e] at h3 ⊢
  rw [h4, pts_free h3]
theorem CutAt.len {m : UInt8} {l : List UInt8} {i fr : Nat} {out : List (List UInt8)} (h : CutAt m l i out fr) : out.length ≤ l.length + 1 := by
  have h1 := pts_len m l
  rw [h.2.2.2, List.length_append] at h1
  omega

/-! ### Lists -/
def noneS : ByteArray := ⟨#[110, 111, 110, 101]⟩
/-- The numbers of the first i parts; none where one is none. -/
def rdTo (ps : List ByteArray) : Nat → Option (List Int)
  | 0 => some []
  | i + 1 => match rdTo ps i with
    | none => none
    | some l => (rd (ps.getD i ByteArray.empty)).map fun n => l ++ [n]
theorem rdTo_len {ps : List ByteArray} : ∀ {i : Nat} {l : List Int}, rdTo ps i = some l → l.length = i
  | 0, l, h => by simp [rdTo] at h; subst h; rfl
  | i + 1, l, h => by
    unfold rdTo at h
    split at h
    · cases h
    · rename_i l' hl
      obtain ⟨n, _, rfl⟩ := Option.map_eq_some_iff.1 h
      simp [rdTo_len hl]
theorem rdTo_none {ps : List ByteArray} {i : Nat} (h : rdTo ps i = none) : ∀ d, rdTo ps (i + d) = none
  | 0 => h
  | d + 1 => by
    have := rdTo_none h d
    show rdTo ps ((i + d) + 1) = none
    unfold rdTo
    rw [this]
/-- The list of a text. -/
def rdl (s : ByteArray) : Option (List Int) := if s = noneS then some [] else if (ptsS 44 s).length ≤ 60 then rdTo (ptsS 44 s) (ptsS 44 s).length else none
theorem rdl_len {s : ByteArray} {l : List Int} (h : rdl s = some l) : l.length ≤ 60 := by
  unfold rdl at h
  split at h
  · cases h; simp
  · split at h
    · rw [rdTo_len h]; omega
    · cases h
end Go.Proofs.YtlgagjboijkpgaaDoor

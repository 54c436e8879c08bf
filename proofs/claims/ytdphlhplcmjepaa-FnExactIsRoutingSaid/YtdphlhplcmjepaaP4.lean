/- The plain law of tracks, second part: places in tracks, prefixes. -/
import Derived.Test.YtdphlhplcmjepaaP3
set_option linter.unusedSimpArgs false
set_option linter.unusedVariables false
namespace Go.Proofs.Ytdphlhplcmjepaa
open Go.Eng

theorem getD_mem' {l : List Int} {i : Nat} (h : i < l.length) : l.getD i 0 ∈ l := by
  simp only [List.getD, List.getElem?_eq_getElem h, Option.getD_some]; exact List.getElem_mem h
theorem mem_getD {l : List Int} {x : Int} (h : x ∈ l) : ∃ i, i < l.length ∧ l.getD i 0 = x := by
  obtain ⟨i, hi, e⟩ := List.mem_iff_getElem.1 h
  exact ⟨i, hi, by simp only [List.getD, List.getElem?_eq_getElem hi, Option.getD_some]; exact e⟩
theorem take_snoc {l : List Int} {i : Nat} (h : i < l.length) : l.take (i + 1) = l.take i ++ [l.getD i 0] := by
  rw [List.take_add_one, List.getElem?_eq_getElem h]; simp [List.getD, h]
theorem takeL_snoc {l : Mz} {i : Nat} (h : i < l.length) : l.take (i + 1) = l.take i ++ [l.getD i []] := by
  rw [List.take_add_one, List.getElem?_eq_getElem h]; simp [List.getD, h]
theorem mem_takeD {l : List Int} {i j : Nat} (hj : j < i) (hi : i ≤ l.length) : l.getD j 0 ∈ l.take i := by
  have h : j < (l.take i).length := by simp; omega
  have : (l.take i)[j] = l.getD j 0 := by
    have hj' : j < l.length := by omega
    simp [List.getD, hj']
  rw [← this]; exact List.getElem_mem h
theorem of_mem_take {l : List Int} {i : Nat} {x : Int} (h : x ∈ l.take i) : ∃ j, j < i ∧ j < l.length ∧ l.getD j 0 = x := by
  obtain ⟨j, hj, e⟩ := List.mem_iff_getElem.1 h
  have h1 : j < i ∧ j < l.length := by simp at hj; omega
  refine ⟨j, h1.1, h1.2, ?_⟩
  rw [← e]; simp [List.getD, h1.2]
theorem pw_at {l : List Int} (h : l.Pairwise (· < ·)) {i j : Nat} (hi : i < l.length) (hj : j < i) : l.getD j 0 < l.getD i 0 := by
  have hj' : j < l.length := by omega
  have := List.pairwise_iff_getElem.1 h j i hj' hi hj
  simpa [List.getD, hi, hj'] using this
theorem pw_step {l : List Int} {i : Nat} (hi : i < l.length) (h : (l.take i).Pairwise (· < ·)) (hs : 0 < i → l.getD (i - 1) 0 < l.getD i 0) : (l.take (i + 1)).Pairwise (· < ·) := by
  rw [take_snoc hi, List.pairwise_append]
  refine ⟨h, by simp, fun x hx y hy => ?_⟩
  rw [List.mem_singleton.1 hy]
  obtain ⟨j, h1, h2, rfl⟩ := of_mem_take hx
  have h3 := hs (by omega)
  rcases Nat.lt_or_ge j (i - 1) with h4 | h4
  · have h5 : i - 1 < (l.take i).length := by simp; omega
    have := pw_at h h5 h4
    have e1 : (l.take i).getD j 0 = l.getD j 0 := by simp [List.getD, show j < i by omega]
    have e2 : (l.take i).getD (i - 1) 0 = l.getD (i - 1) 0 := by simp [List.getD, show i - 1 < i by omega]
    rw [e1, e2] at this; omega
  · obtain rfl : j = i - 1 := by omega
    exact h3
theorem sorted_nodup {l : List Int} (h : l.Pairwise (· < ·)) : l.Nodup := h.imp (fun h => by omega)

/-! ### Positions -/
def pos (ns : List Int) (x : Int) : Nat := ns.idxOf x
theorem pos_lt {ns : List Int} {x : Int} (h : x ∈ ns) : pos ns x < ns.length := List.idxOf_lt_length_of_mem h
theorem pos_get {ns : List Int} {x : Int} (h : x ∈ ns) : ns.getD (pos ns x) 0 = x := by
  have := List.getElem_idxOf (pos_lt h)
  simp only [List.getD, List.getElem?_eq_getElem (pos_lt h), Option.getD_some]
  exact this
theorem getD_el {l : List Int} {i : Nat} (h : i < l.length) : l.getD i 0 = l[i] := by
  simp only [List.getD, List.getElem?_eq_getElem h, Option.getD_some]
theorem get_pos {ns : List Int} (hn : ns.Nodup) {i : Nat} (hi : i < ns.length) : pos ns (ns.getD i 0) = i := by
  have hm := getD_mem' hi
  have h2 := pos_lt hm
  have h1 := pos_get hm
  exact (List.getElem_inj (h₀ := h2) (h₁ := hi) hn).1 ((getD_el h2).symm.trans (h1.trans (getD_el hi)))
theorem pos_inj {ns : List Int} {x y : Int} (hx : x ∈ ns) (hy : y ∈ ns) (h : pos ns x = pos ns y) : x = y := by
  rw [← pos_get hx, ← pos_get hy, h]
theorem pos_mono {ns : List Int} (hs : ns.Pairwise (· < ·)) {x y : Int} (hx : x ∈ ns) (hy : y ∈ ns) : pos ns x < pos ns y ↔ x < y := by
  constructor
  · intro h
    have := pw_at hs (pos_lt hy) h
    rwa [pos_get hx, pos_get hy] at this
  · intro h
    rcases Nat.lt_or_ge (pos ns x) (pos ns y) with h1 | h1
    · exact h1
    · rcases Nat.lt_or_ge (pos ns y) (pos ns x) with h2 | h2
      · have := pw_at hs (pos_lt hx) h2
        rw [pos_get hx, pos_get hy] at this; omega
      · have := pos_inj hx hy (by omega); omega

/-! ### In which track -/
def placeFrom : Nat → Mz → Int → Int
  | _, [], _ => 0
  | s, l :: r, x => if x ∈ l then (s : Int) + 1 else placeFrom (s + 1) r x
theorem place_zero (x : Int) : ∀ (L : Mz) (s : Nat), placeFrom s L x = 0 ↔ ¬ x ∈ L.flatten
  | [], s => by simp [placeFrom]
  | l :: r, s => by
    unfold placeFrom
    rw [List.flatten_cons, List.mem_append]
    split
    · rename_i h
      constructor
      · intro h1; omega
      · intro h1; exact absurd (.inl h) h1
    · rename_i h
      rw [place_zero x r (s + 1)]
      constructor
      · rintro h1 (h2 | h2)
        · exact h h2
        · exact h1 h2
      · intro h1 h2; exact h1 (.inr h2)
theorem place_nonneg (x : Int) : ∀ (L : Mz) (s : Nat), 0 ≤ placeFrom s L x ∧ placeFrom s L x ≤ s + L.length
  | [], s => by simp [placeFrom]
  | l :: r, s => by
    have := place_nonneg x r (s + 1)
    unfold placeFrom
    split
    · simp only [List.length_cons]; push_cast; omega
    · simp only [List.length_cons] at *; push_cast at *; omega
theorem place_snoc (x : Int) (l : List Int) : ∀ (L : Mz) (s : Nat), placeFrom s (L ++ [l]) x = if x ∈ L.flatten then placeFrom s L x else if x ∈ l then ((s + L.length : Nat) : Int) + 1 else 0
  | [], s => by simp [placeFrom]
  | l' :: r, s => by
    rw [List.cons_append, placeFrom, placeFrom, List.flatten_cons, place_snoc x l r (s + 1)]
    by_cases h : x ∈ l'
    · simp [h]
    · simp only [h, if_false, List.mem_append, false_or]
      split
      · rfl
      · split
        · simp only [List.length_cons]; push_cast; omega
        · rfl
/-- In lists that have nothing in common, the place says which list. -/
theorem place_at {L : Mz} (hn : L.flatten.Nodup) {x : Int} {t : Nat} (ht : t < L.length) (hx : x ∈ L.getD t []) : ∀ s, placeFrom s L x = ((s + t : Nat) : Int) + 1 := by
  induction L generalizing t with
  | nil => simp at ht
  | cons l r ih =>
    intro s
    rw [List.flatten_cons, List.nodup_append] at hn
    unfold placeFrom
    cases t with
    | zero => rw [if_pos (by simpa using hx)]; rfl
    | succ t =>
      have hx' : x ∈ r.getD t [] := by simpa using hx
      have ht' : t < r.length := by simpa using ht
      have hr : x ∈ r.flatten := List.mem_flatten.2 ⟨r.getD t [], by simp only [List.getD, List.getElem?_eq_getElem ht', Option.getD_some]; exact List.getElem_mem ht', hx'⟩
      rw [if_neg (fun h => hn.2.2 x h x hr rfl), ih hn.2.1 ht' hx' (s + 1)]
      congr 1; push_cast; omega
theorem place_of {L : Mz} {x : Int} : ∀ (s : Nat), x ∈ L.flatten → ∃ t, t < L.length ∧ x ∈ L.getD t [] ∧ placeFrom s L x = ((s + t : Nat) : Int) + 1 := by
  induction L with
  | nil => intro s h; simp at h
  | cons l r ih =>
    intro s h
    unfold placeFrom
    by_cases hx : x ∈ l
    · exact ⟨0, by simp, by simpa using hx, by rw [if_pos hx]; rfl⟩
    · rw [List.flatten_cons, List.mem_append] at h
      obtain ⟨t, h1, h2, h3⟩ := ih (s + 1) (h.resolve_left hx)
      refine ⟨t + 1, by simpa using h1, by simpa using h2, ?_⟩
      rw [if_neg hx, h3]; congr 1; push_cast; omega
theorem mem_take_flat {L : Mz} {t s : Nat} {x : Int} (hs : s < t) (ht : s < L.length) (hx : x ∈ L.getD s []) : x ∈ (L.take t).flatten := by
  refine List.mem_flatten.2 ⟨L.getD s [], ?_, hx⟩
  have h : s < (L.take t).length := by simp; omega
  have : (L.take t)[s] = L.getD s [] := by simp [List.getD, ht]
  rw [← this]; exact List.getElem_mem h
theorem of_take_flat {L : Mz} {t : Nat} {x : Int} (hx : x ∈ (L.take t).flatten) : ∃ s, s < t ∧ s < L.length ∧ x ∈ L.getD s [] := by
  obtain ⟨l, h1, h2⟩ := List.mem_flatten.1 hx
  obtain ⟨s, hs, rfl⟩ := List.mem_iff_getElem.1 h1
  have h3 : s < t ∧ s < L.length := by simp at hs; omega
  refine ⟨s, h3.1, h3.2, ?_⟩
  have : (L.take t)[s] = L.getD s [] := by simp [List.getD, h3.2]
  rw [← this]; exact h2
theorem take_flat_sub {L : Mz} {t : Nat} {x : Int} (hx : x ∈ (L.take t).flatten) : x ∈ L.flatten := by
  obtain ⟨s, h1, h2, h3⟩ := of_take_flat hx
  exact List.mem_flatten.2 ⟨_, by simp only [List.getD, List.getElem?_eq_getElem h2, Option.getD_some]; exact List.getElem_mem h2, h3⟩
theorem getL_mem {L : Mz} {t : Nat} (ht : t < L.length) : L.getD t [] ∈ L := by
  simp only [List.getD, List.getElem?_eq_getElem ht, Option.getD_some]; exact List.getElem_mem ht
theorem flat_split {L : Mz} {t : Nat} (ht : t < L.length) : L.flatten = (L.take t).flatten ++ (L.getD t [] ++ (L.drop (t + 1)).flatten) := by
  have h : L = L.take t ++ (L.getD t [] :: L.drop (t + 1)) := by
    have e : L.drop t = L.getD t [] :: L.drop (t + 1) := by
      rw [List.drop_eq_getElem_cons ht]; simp [List.getD, ht]
    rw [← e, List.take_append_drop]
  conv => lhs; rw [h]
  rw [List.flatten_append, List.flatten_cons]
/-- What a right list of tracks says of the first i numbers of the track t. -/
theorem once_at {L : Mz} (hn : L.flatten.Nodup) {t i : Nat} (ht : t < L.length) (hi : i < (L.getD t []).length) : ¬ (L.getD t []).getD i 0 ∈ (L.take t).flatten ++ (L.getD t []).take i := by
  rw [flat_split ht] at hn
  have h1 := List.nodup_append.1 hn
  have h2 := List.nodup_append.1 h1.2.1
  intro hx
  rcases List.mem_append.1 hx with hx | hx
  · exact h1.2.2 _ hx _ (List.mem_append.2 (.inl (getD_mem' hi))) rfl
  · have h3 : ((L.getD t []).take (i + 1)).Nodup := h2.1.sublist (List.take_sublist _ _)
    rw [take_snoc hi, List.nodup_append] at h3
    exact h3.2.2 _ hx _ (List.mem_singleton.2 rfl) rfl
theorem flat_snoc {L : Mz} {t : Nat} (ht : t < L.length) : (L.take (t + 1)).flatten = (L.take t).flatten ++ L.getD t [] := by
  rw [takeL_snoc ht, List.flatten_append]; simp
/-- The tracks' numbers, as a list of places. -/
def atR (ns : List Int) (L : Mz) : List Int := ns.map (placeFrom 0 L)
theorem atR_len (ns : List Int) (L : Mz) : (atR ns L).length = ns.length := by simp [atR]
theorem atR_get {ns : List Int} {L : Mz} {k : Nat} (hk : k < ns.length) : (atR ns L).getD k 0 = placeFrom 0 L (ns.getD k 0) := by
  simp [atR, List.getD, hk]
theorem atR_nil (ns : List Int) : atR ns [] = List.replicate ns.length 0 := by
  unfold atR
  apply List.ext_getElem (by simp)
  intro i h1 h2; simp [placeFrom]
theorem atR_new {ns : List Int} {L : Mz} : atR ns (L ++ [[]]) = atR ns L := by
  unfold atR
  refine List.map_congr_left fun x _ => ?_
  rw [place_snoc]
  split
  · rfl
  · rename_i h; rw [(place_zero x L 0).2 h]; simp
theorem atR_set {ns : List Int} (hn : ns.Nodup) {L : Mz} {l : List Int} {x : Int} {k : Nat} (hk : k < ns.length) (hx : ns.getD k 0 = x) (hne : ¬ x ∈ L.flatten ++ l) :
    (atR ns (L ++ [l])).set k ((L.length : Int) + 1) = atR ns (L ++ [l ++ [x]]) := by
  apply List.ext_getElem (by simp [atR])
  intro j h1 h2
  have hj : j < ns.length := by simpa [atR] using h2
  rw [List.getElem_set]
  have e2 : (atR ns (L ++ [l ++ [x]]))[j] = placeFrom 0 (L ++ [l ++ [x]]) ns[j] := by simp [atR]
  rw [e2, place_snoc]
  simp only [List.mem_append, not_or] at hne
  by_cases e : k = j
  · subst e
    have hx' : ns[k] = x := by rw [← hx]; simp [List.getD, hk]
    rw [if_pos rfl, hx', if_neg hne.1, if_pos (by simp)]
    simp
  · have hx' : ¬ ns[j] = x := fun h => e (by
      have e3 : ns[k] = ns[j] := by rw [h, ← hx]; simp [List.getD, hk]
      exact (List.getElem_inj hn).1 e3)
    rw [if_neg e]
    have e1 : (atR ns (L ++ [l]))[j]'(by simpa [atR] using hj) = placeFrom 0 (L ++ [l]) ns[j] := by simp [atR]
    rw [e1, place_snoc]
    simp [List.mem_append, hx']
end Go.Proofs.Ytdphlhplcmjepaa

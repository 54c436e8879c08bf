/- The plain law of tracks, third part: what the two ways of looking at tracks come to. -/
import Derived.Test.YtdphlhplcmjepaaP4
set_option linter.unusedSimpArgs false
set_option linter.unusedVariables false
namespace Go.Proofs.Ytdphlhplcmjepaa
open Go.Eng

theorem flat_sub {ns : List Int} {tr : Mz} (h : ∀ l ∈ tr, l ≠ [] ∧ l.Pairwise (· < ·) ∧ ∀ x ∈ l, x ∈ ns) : ∀ x ∈ tr.flatten, x ∈ ns := fun x hx => by
  obtain ⟨l, h1, h2⟩ := List.mem_flatten.1 hx
  exact (h l h1).2.2 x h2
theorem Good.len {ns : List Int} {AP AB : Int → Int → Prop} {tr : Mz} (h : Good ns AP AB tr) (hn : ns.Nodup) : tr.flatten.length = ns.length :=
  (nodup_all h.once (flat_sub h.rows) hn).2 h.all
theorem Good.pairs {ns : List Int} {AP AB : Int → Int → Prop} {tr : Mz} (h : Good ns AP AB tr) {x y : Int} (hx : x ∈ ns) (hy : y ∈ ns) :
    ¬ (AP x y ∧ placeFrom 0 tr x = placeFrom 0 tr y) ∧ ¬ (AB x y ∧ placeFrom 0 tr y ≤ placeFrom 0 tr x) := by
  obtain ⟨t, t1, t2, t3⟩ := place_of 0 (h.all x hx)
  obtain ⟨s, s1, s2, s3⟩ := place_of 0 (h.all y hy)
  rw [t3, s3]
  constructor
  · rintro ⟨h1, h2⟩
    obtain rfl : t = s := by omega
    exact h.apart _ (getL_mem t1) x t2 y s2 h1
  · rintro ⟨h1, h2⟩
    have h3 := h.above s s1 y s2 x hx h1
    obtain ⟨q, q1, q2, q3⟩ := of_take_flat h3
    have h4 := place_at h.once q2 q3 0
    rw [t3] at h4
    omega
theorem good_of_pairs {ns : List Int} (hn : ns.Nodup) {AP AB : Int → Int → Prop} {tr : Mz} (h1 : ∀ l ∈ tr, l ≠ [] ∧ l.Pairwise (· < ·) ∧ ∀ x ∈ l, x ∈ ns) (h2 : tr.flatten.Nodup) (h3 : tr.flatten.length = ns.length)
    (hp : ∀ x ∈ ns, ∀ y ∈ ns, ¬ (AP x y ∧ placeFrom 0 tr x = placeFrom 0 tr y) ∧ ¬ (AB x y ∧ placeFrom 0 tr y ≤ placeFrom 0 tr x)) : Good ns AP AB tr := by
  have hall := (nodup_all h2 (flat_sub h1) hn).1 h3
  refine ⟨h1, h2, hall, fun l hl x hx y hy hap => ?_, fun t ht y hy x hx hab => ?_⟩
  · obtain ⟨t, ht, rfl⟩ := List.mem_iff_getElem.1 hl
    have e : tr.getD t [] = tr[t] := by simp [List.getD, ht]
    rw [← e] at hx hy
    have p1 := place_at h2 ht hx 0
    have p2 := place_at h2 ht hy 0
    exact (hp x ((h1 _ hl).2.2 x (e ▸ hx)) y ((h1 _ hl).2.2 y (e ▸ hy))).1 ⟨hap, by rw [p1, p2]⟩
  · have hyn := (h1 _ (getL_mem ht)).2.2 y hy
    have p1 := place_at h2 ht hy 0
    obtain ⟨s, s1, s2, s3⟩ := place_of 0 (hall x hx)
    have := (hp x hx y hyn).2
    rw [p1, s3] at this
    have hlt : s < t := by
      rcases Nat.lt_or_ge s t with h | h
      · exact h
      · exact absurd ⟨hab, by omega⟩ this
    exact mem_take_flat hlt s1 s2
/-- Of a right list of tracks, what the other way looks at. -/
theorem Good.at {ns : List Int} {AP AB : Int → Int → Prop} {tr : Mz} (h : Good ns AP AB tr) {t : Nat} (ht : t < tr.length) : tr.getD t [] ≠ [] ∧ (tr.getD t []).Pairwise (· < ·) ∧ ∀ x ∈ tr.getD t [], x ∈ ns := h.rows _ (getL_mem ht)

/-! ### Masks -/
/-- Positions of a list's numbers. -/
def ps (ns l : List Int) : List Nat := l.map (pos ns)
theorem ps_lt {ns l : List Int} (h : ∀ x ∈ l, x ∈ ns) : ∀ k ∈ ps ns l, k < ns.length := fun k hk => by
  obtain ⟨x, h1, rfl⟩ := List.mem_map.1 hk
  exact pos_lt (h x h1)
theorem ps_mem {ns l : List Int} (h : ∀ x ∈ l, x ∈ ns) {x : Int} (hx : x ∈ ns) : pos ns x ∈ ps ns l ↔ x ∈ l := by
  constructor
  · intro hk
    obtain ⟨y, h1, h2⟩ := List.mem_map.1 hk
    exact pos_inj (h y h1) hx h2 ▸ h1
  · intro h1; exact List.mem_map.2 ⟨x, h1, rfl⟩
theorem ps_mem' {ns l : List Int} (hn : ns.Nodup) (h : ∀ x ∈ l, x ∈ ns) {i : Nat} (hi : i < ns.length) : i ∈ ps ns l ↔ ns.getD i 0 ∈ l := by
  have := ps_mem h (getD_mem' hi)
  rwa [get_pos hn hi] at this
def msk (ns l : List Int) : Nat := bitsOf (ps ns l)
theorem msk_lt {ns l : List Int} (h : ∀ x ∈ l, x ∈ ns) : msk ns l < 2 ^ ns.length := bitsOf_lt (ps_lt h)
theorem msk_nil (ns : List Int) : msk ns [] = 0 := rfl
theorem msk_snoc (ns l : List Int) (x : Int) : msk ns (l ++ [x]) = msk ns l ||| 2 ^ pos ns x := by
  unfold msk ps
  rw [List.map_append, List.map_cons, List.map_nil, bitsOf_snoc]
theorem msk_app (ns a b : List Int) : msk ns (a ++ b) = msk ns a ||| msk ns b := by
  unfold msk ps
  rw [List.map_append, bitsOf_append]
theorem msk_bit {ns l : List Int} (hn : ns.Nodup) (h : ∀ x ∈ l, x ∈ ns) {i : Nat} : (msk ns l).testBit i = true ↔ i < ns.length ∧ ns.getD i 0 ∈ l := by
  unfold msk
  rw [testBit_bitsOf, decide_eq_true_eq]
  constructor
  · intro hk
    have hi := ps_lt h i hk
    exact ⟨hi, (ps_mem' hn h hi).1 hk⟩
  · intro ⟨hi, hx⟩; exact (ps_mem' hn h hi).2 hx
theorem msk_zero {ns l : List Int} : msk ns l = 0 ↔ l = [] := by
  unfold msk; rw [bitsOf_zero]; unfold ps; simp
theorem msk_all {ns l : List Int} (hn : ns.Nodup) (h : ∀ x ∈ l, x ∈ ns) : msk ns l = 2 ^ ns.length - 1 ↔ ∀ x ∈ ns, x ∈ l := by
  unfold msk
  rw [bitsOf_all (ps_lt h)]
  constructor
  · intro hall x hx; exact (ps_mem h hx).1 (hall _ (pos_lt hx))
  · intro hall k hk; exact (ps_mem' hn h hk).2 (hall _ (getD_mem' hk))
/-- Rows of bits that stand for a relation. -/
def Rel (ns : List Int) (R : Int → Int → Prop) (ms : List Int) : Prop := ms.length = ns.length ∧ ∀ k, k < ns.length → ∃ m : Nat, ms.getD k 0 = (m : Int) ∧ m < 2 ^ ns.length ∧ ∀ j, m.testBit j = true ↔ j < ns.length ∧ R (ns.getD k 0) (ns.getD j 0)
/-- Rows of yes and no that stand for a relation. -/
def RelM (ns : List Int) (R : Int → Int → Prop) (ms : List (List Bool)) : Prop := ms.length = ns.length ∧ ∀ k, k < ns.length → (ms.getD k []).length = ns.length ∧ ∀ j, j < ns.length → ((ms.getD k []).getD j false = true ↔ R (ns.getD k 0) (ns.getD j 0))
theorem two_pow_le {n : Nat} (h : n ≤ 62) : 2 ^ n ≤ 2 ^ 62 := Nat.pow_le_pow_right (by decide) h
end Go.Proofs.Ytdphlhplcmjepaa

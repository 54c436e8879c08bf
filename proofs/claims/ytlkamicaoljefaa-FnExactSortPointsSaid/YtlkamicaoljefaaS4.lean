import Derived.Test.YtlkamicaoljefaaS3
set_option linter.unusedSimpArgs false
set_option linter.unusedVariables false
set_option maxHeartbeats 1000000
namespace Go.Proofs.Ytlkamicaoljefaa
open Go.Shelf Go.RowKit Go.Lib Go.Sort Go.Proofs Go.Eng

def encP (x : Int × Int) : List Value := [.int .i64 x.1, .int .i64 x.2]
def cfP (x y : Int × Int) : Int := orR (Lib.compareInt x.1 y.1) (Lib.compareInt x.2 y.2)
theorem cmpLays80 (blk off size : Nat) (w : World) : CmpLays Try.prog 119 #[] encP 2 cfP blk off size w := fun _ _ _ _ x y => closure80 x y _
def ltP (x y : Int × Int) : Prop := x.1 < y.1 ∨ x.1 = y.1 ∧ x.2 < y.2
instance (x y : Int × Int) : Decidable (ltP x y) := by unfold ltP; exact inferInstance
theorem ltOf_cfP (x y : Int × Int) : ltOf cfP x y = decide (ltP x y) := by
  unfold ltOf cfP orR Lib.compareInt ltP
  by_cases h1 : x.1 < y.1
  · simp [h1]
  · by_cases h2 : y.1 < x.1
    · have : ¬ x.1 = y.1 := by omega
      simp [h1, h2, this]
    · have e : x.1 = y.1 := by omega
      by_cases h3 : x.2 < y.2
      · simp [h1, h2, h3, e]
      · by_cases h4 : y.2 < x.2 <;> simp [h1, h2, h3, h4, e]
theorem swoP : SWO (ltOf cfP) where
  irrefl x := by rw [ltOf_cfP]; simp [ltP]
  trans x y z h1 h2 := by
    rw [ltOf_cfP] at h1 h2 ⊢
    have h1 := of_decide_eq_true h1
    have h2 := of_decide_eq_true h2
    exact decide_eq_true (by unfold ltP at *; omega)
  ntrans x y z h1 h2 := by
    rw [ltOf_cfP] at h1 h2 ⊢
    have h1 := of_decide_eq_false h1
    have h2 := of_decide_eq_false h2
    exact decide_eq_false (by unfold ltP at *; omega)
theorem sw_heap (w : World) (blk off n : Nat) (d : Array (Int × Int)) (os : Array Obj) {b : Nat} (hb : b < w.heap.size) : (sortWorldK encP 2 w blk off n d os).heap[b]? = if blk = b then (w.heap[b]?).map (onCells (putCells id off (flatK encP 2 d))) else w.heap[b]? := by
  show ((w.heap.modify blk (onCells (putCells id off (flatK encP 2 d)))) ++ os)[b]? = _
  rw [Array.getElem?_append_left (by simpa using hb), Array.getElem?_modify]
theorem agg26 (w : World) : (isAgg 26).run Try.prog w = .ok true w := by kernel_rfl
theorem size26 (w : World) : (Go.sizeOf 26).run Try.prog w = .ok 2 w := by kernel_rfl
theorem flat_at (d : Array (Int × Int)) (i : Nat) (hi : i < d.size) : (flatK encP 2 d)[i * 2 + 0]! = .int .i64 d[i]!.1 ∧ (flatK encP 2 d)[i * 2 + 1]! = .int .i64 d[i]!.2 := by
  constructor
  · rw [get_flatK encP 2 d _ (by omega), show (i * 2 + 0) / 2 = i by omega, show (i * 2 + 0) % 2 = 0 by omega]; rfl
  · rw [get_flatK encP 2 d _ (by omega), show (i * 2 + 1) / 2 = i by omega, show (i * 2 + 1) % 2 = 1 by omega]; rfl
theorem sort118_ac (xs : List (Int × Int)) (h0 : 0 < xs.length) (hx : xs.length < 1000000) (l : List ABox) (j : Nat) (hj : l[j]? = some (.row false .pt xs)) (H : List ABox) :
    AC Try.prog 118 [.sl 2 (H.length + j) 0 xs.length, .fn 119 []] (H ++ l) (fun r H' => ∃ ys : List (Int × Int), (ys.Perm xs ∧ ys.Pairwise (fun a b => ¬ ltP b a)) ∧ r = .v (.tuple #[]) ∧ H' = H ++ l.set j (.row false .pt ys)) := by
  refine ⟨⟨_, Try.func118, rfl, by decide⟩, fun c vs w hv hh => ?_⟩
  obtain ⟨hl, hv⟩ := hv
  match vs, hl with
  | [p, q], _ =>
    have e1 := hv 0 (by simp)
    have e2 := hv 1 (by simp)
    simp at e1 e2
    have hget : (H ++ l)[H.length + j]? = some (.row false .pt xs) := by rw [List.getElem?_append_right (by omega), Nat.add_sub_cancel_left]; exact hj
    obtain ⟨loc, hloc, cells, T, g1, g2, g3, g4, g5⟩ := hh.box _ _ hget rfl
    have hcells : ∀ i, i < xs.length → cells[loc.off + i * 2 + 0]? = some (.int .i64 (xs.getD i (0, 0)).1) ∧ cells[loc.off + i * 2 + 1]? = some (.int .i64 (xs.getD i (0, 0)).2) := fun i hi => by
      obtain ⟨u, hu, hr⟩ := g5 i 0 hi (by decide)
      obtain ⟨u', hu', hr'⟩ := g5 i 1 hi (by decide)
      have := hr.v_inv
      have := hr'.v_inv
      subst_vars
      exact ⟨hu, hu'⟩
    cases e2 with
    | @fn _ _ vs hl _ =>
      have : vs = [] := List.length_eq_zero_iff.1 hl.symm
      subst this
      cases e1 with
      | @sl _ _ _ _ b o l2 hl2 hn ha =>
        rw [hloc] at hl2; cases hl2
        obtain ⟨rfl, rfl⟩ := ha (by have : xs.length ≤ loc.cap := g4; omega)
        have hblk := (Array.getElem?_eq_some_iff.1 g1).1
        have hH : HoldsK encP 2 w loc.blk (loc.off + 0 * 2) xs.toArray := by
          intro t ht
          have ht' : t < xs.length * 2 := by simpa using ht
          obtain ⟨c0, c1⟩ := hcells (t / 2) (by omega)
          obtain ⟨f0, f1⟩ := flat_at xs.toArray (t / 2) (by simp; omega)
          have hd : xs.toArray[t / 2]! = xs.getD (t / 2) (0, 0) := by simp [List.getD, show t / 2 < xs.length by omega]
          rw [hd] at f0 f1
          refine ⟨?_, by simp [World.frozen?, g1]⟩
          simp only [World.cell?, g1]
          rcases Nat.mod_two_eq_zero_or_one t with h | h
          · rw [show t / 2 * 2 + 0 = t by omega] at f0
            rw [show loc.off + 0 * 2 + t = loc.off + t / 2 * 2 + 0 by omega, f0]
            exact c0
          · rw [show t / 2 * 2 + 1 = t by omega] at f1
            rw [show loc.off + 0 * 2 + t = loc.off + t / 2 * 2 + 1 by omega, f1]
            exact c1
        have eg : ∀ args w, (callFunc 119 args).run Try.prog w = .ok (.enter 119 args) w := enters_of Try.func119 (by kernel_rfl) rfl
        have h := AnyQ.slices_SortFunc sortPt 2 agg26 size26 encP (fun _ => rfl) (fun x v hv => by simp [encP] at hv; rcases hv with rfl | rfl <;> rfl) cfP swoP 119 #[] loc.blk (loc.off + 0 * 2) (loc.cap - 0) xs.toArray w eg (cmpLays80 loc.blk _ _ w) hH hblk (by simp; omega)
        change Calls Try.prog 118 #[.slice (some ⟨loc.blk, loc.off + 0 * 2, none⟩) xs.length (loc.cap - 0), .func (.func 119) #[] #[]] w _ at h
        refine h.mono ?_
        rintro e w' ⟨rfl, d', n, os, ⟨hs1, _, hp⟩, hs, rfl⟩
        have hsz : d'.size = xs.length := by simpa using hs1
        have hsl : d'.toList.length = xs.length := by simpa using hsz
        refine ⟨c, .v (.tuple #[]), _, (H ++ l).set (H.length + j) (.row false .pt d'.toList), .refl c, rfl, .v _, ?_, d'.toList, ⟨?_, ?_⟩, rfl, ?_⟩
        · have hme : (sortWorldK encP 2 w loc.blk (loc.off + 0 * 2) n d' os).heap[loc.blk]? = some (.cells (putCells id (loc.off + 0 * 2) (flatK encP 2 d') cells) T (0, 0)) := by
            rw [sw_heap w _ _ _ _ _ hblk, if_pos rfl, g1]; rfl
          refine hh.rewriteRow hget hloc g1 hme (by simp [putCells]) (fun b hb hlt => by rw [sw_heap w _ _ _ _ _ hlt, if_neg (Ne.symm hb)]) rfl rfl rfl hsl (fun i hi => ?_)
          have hi' : i < d'.size := by simpa using hi
          obtain ⟨f0, f1⟩ := flat_at d' i hi'
          have hd : d'[i]! = d'.toList.getD i (0, 0) := by simp [List.getD, hi']
          rw [hd] at f0 f1
          have hcap : loc.off + loc.cap * 2 ≤ cells.size := g3
          have hcp : xs.length ≤ loc.cap := g4
          have put : ∀ q, q < d'.size * 2 → (putCells id (loc.off + 0 * 2) (flatK encP 2 d') cells)[loc.off + q]? = some (flatK encP 2 d')[q]! := fun q hq => by
            unfold putCells
            rw [Array.getElem?_mapIdx, Array.getElem?_eq_getElem (by omega)]
            simp only [Option.map_some]
            rw [if_pos ⟨by omega, by rw [size_flatK]; omega⟩, show loc.off + q - (loc.off + 0 * 2) = q by omega]; rfl
          constructor
          · rw [show loc.off + i * 2 + 0 = loc.off + (i * 2 + 0) by omega, put _ (by omega), f0]
          · rw [show loc.off + i * 2 + 1 = loc.off + (i * 2 + 1) by omega, put _ (by omega), f1]
        · have e : d'.extract 0 xs.toArray.size = d' := by rw [← hs1]; simp
          rw [e] at hp
          simpa using hp
        · refine List.pairwise_iff_getElem.2 fun a b ha hb hab => ?_
          have h1 := hs a b (Nat.zero_le _) hab (by simp at hb; simp; omega)
          rw [ltOf_cfP] at h1
          have h1 := of_decide_eq_false h1
          have ha' : a < d'.size := by simpa using ha
          have hb' : b < d'.size := by simpa using hb
          simpa [ha', hb'] using h1
        · rw [List.set_append, if_neg (by omega), Nat.add_sub_cancel_left]
end Go.Proofs.Ytlkamicaoljefaa

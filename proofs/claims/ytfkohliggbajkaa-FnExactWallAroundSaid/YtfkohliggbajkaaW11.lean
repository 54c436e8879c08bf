/- Texts of this seat that the law stands on, put together. No conditions. -/
import Derived.Lib.Walk
import Derived.StillTailTactics
import Derived.Lib.Hide
import Derived.Handy
import Derived.Test.YtfkohliggbajkaaW10
section
namespace Go.Proofs.Ytfkohliggbajkaa
open Go.Shelf Go.RowKit Go.Lib Go.Sort Go.Proofs
theorem cmp86 (x y : Int) (w : World) : Calls Try.prog 69 #[.int .i64 x, .int .i64 y] w fun e w' => e = .returned (.int .i64 (Lib.compareInt x y)) ∧ w' = w := AnyG.cmp_Compare_int cmpI64 x y w
theorem three_grow (W : World) (A B C : Obj) : (((W.alloc A).alloc B).drew.alloc C) = grow (W.drewN 1) (#[A] ++ #[B] ++ #[C]) := by
  rw [alloc_eq_grow, alloc_eq_grow, alloc_eq_grow, drew_grow, drew_grow, grow_grow, grow_grow, Array.append_assoc]; rfl
def orR (a b : Int) : Int := if a = 0 then b else a
set_option maxHeartbeats 1000000 in
set_option maxRecDepth 100000 in
theorem or85 (a b : Int) (blk cap : Nat) (w : World) (h0 : w.cell? { block := blk, off := 0 } = some (.int .i64 a)) (h1 : w.cell? { block := blk, off := 1 } = some (.int .i64 b)) : Calls Try.prog 68 #[.slice (some { block := blk, off := 0 }) 2 cap] w fun e w' => e = .returned (.int .i64 (orR a b)) ∧ w' = w := by
  go_enter Try.func68, Try.ntmps68
  go_wp2
  go_rounds 3
  all_goals go_ret
  all_goals (refine ⟨?_, rfl⟩; unfold orR; simp_all)
set_option maxHeartbeats 1000000 in
set_option maxRecDepth 100000 in
theorem closure80 (x y : Int × Int) (W : World) : Calls Try.prog 63 #[.agg #[.int .i64 x.1, .int .i64 x.2], .agg #[.int .i64 y.1, .int .i64 y.2]] W fun e w' => e = .returned (.int .i64 (orR (Lib.compareInt x.1 y.1) (Lib.compareInt x.2 y.2))) ∧ ∃ q os', w' = grow (W.drewN q) os' := by
  go_enter Try.func63, Try.ntmps63
  go_wp2
  generalize hw2 : (W.alloc (Obj.cells #[Value.int IntKind.i64 x.fst, Value.int IntKind.i64 x.snd] 33)).alloc (Obj.cells #[Value.int IntKind.i64 y.fst, Value.int IntKind.i64 y.snd] 33) = W2
  have h1 : W2.cell? { block := W.heap.size, off := 0 } = some (.int .i64 x.1) := by rw [← hw2]; simp only [World.cell?, World.alloc, Array.getElem?_push, Array.size_push]; simp
  have h2 : W2.cell? { block := W.heap.size, off := 1 } = some (.int .i64 x.2) := by rw [← hw2]; simp only [World.cell?, World.alloc, Array.getElem?_push, Array.size_push]; simp
  have h3 : W2.cell? { block := W.heap.size + 1, off := 0 } = some (.int .i64 y.1) := by rw [← hw2]; simp only [World.cell?, World.alloc, Array.getElem?_push, Array.size_push]; simp
  have h4 : W2.cell? { block := W.heap.size + 1, off := 1 } = some (.int .i64 y.2) := by rw [← hw2]; simp only [World.cell?, World.alloc, Array.getElem?_push, Array.size_push]; simp
  have Hw := Lib.hid hw2
  clear hw2
  have hsz : W2.heap.size = W.heap.size + 2 := by rw [← Hw.out]; simp
  have Hs := Lib.hid hsz
  clear hsz
  refine wp_region_still_tail 10 (by kernel_rfl) (by kernel_rfl) ?_
  simp only [List.take_succ_cons, List.take_zero, List.drop_succ_cons, List.drop_zero]
  still_step
  still_step
  still_step
  still_step
  still_call (cmp86 x.1 y.1 _)
  still_step
  still_step
  still_step
  still_step
  still_call (cmp86 x.2 y.2 _)
  refine wpStill_nil ?_
  change wpList _ _ _ _ _ W2.drew
  generalize hw3 : W2.drew = W3
  have Hw3 := Lib.hid hw3
  clear hw3
  have hor := or85 (Lib.compareInt x.1 y.1) (Lib.compareInt x.2 y.2) W3.heap.size 2 (W3.alloc (Obj.cells #[Value.int IntKind.i64 (Lib.compareInt x.1 y.1), Value.int IntKind.i64 (Lib.compareInt x.2 y.2)] 3)) (by simp only [World.cell?, World.alloc, Array.getElem?_push]; simp) (by simp only [World.cell?, World.alloc, Array.getElem?_push]; simp)
  go_wp2_with (go_at_call 68; refine hor.mono ?_; rintro e w' ⟨rfl, rfl⟩)
  go_ret
  have e1 := Hw.out
  have e2 := Hw3.out
  subst e1
  subst e2
  refine ⟨?_, 1, _, three_grow _ _ _ _⟩
  first | rfl | simp
end Go.Proofs.Ytfkohliggbajkaa
end
section
set_option linter.unusedSimpArgs false
set_option linter.unusedVariables false
namespace Go.Eng
/-- A row of points rewritten, other blocks left. -/
theorem RelH.rewriteRow {c : Ctx} {H : List ABox} {w w' : World} (h : RelH c H w) {k : Nat} {xs ys : List (Int × Int)} {l : Loc} (hk : H[k]? = some (.row false .pt xs)) (hl : c.loc k = some l)
    {cells cells' : Array Value} {T : TypeId} (hb : w.heap[l.blk]? = some (.cells cells T (0, 0))) (hb' : w'.heap[l.blk]? = some (.cells cells' T (0, 0))) (hsz : cells'.size = cells.size)
    (hoth : ∀ b, b ≠ l.blk → b < w.heap.size → w'.heap[b]? = w.heap[b]?) (hos : w'.os = w.os) (ht : w'.tape = w.tape) (ho : w'.output = w.output) (hlen : ys.length = xs.length)
    (hc : ∀ i, i < ys.length → cells'[l.off + i * 2 + 0]? = some (.int .i64 (ys.getD i (0, 0)).1) ∧ cells'[l.off + i * 2 + 1]? = some (.int .i64 (ys.getD i (0, 0)).2)) : RelH c (H.set k (.row false .pt ys)) w' := by
  obtain ⟨l2, hl2, cells2, T2, g1, g2, g3, g4, g5⟩ := h.box k _ hk rfl
  rw [hl] at hl2; cases hl2
  rw [hb] at g1; cases g1
  have hseal : c.sealed l.blk = none := g2
  have hkl : k < H.length := (List.getElem?_eq_some_iff.1 hk).1
  have live : ∀ (q : Nat) (X : ABox), (H.set k (.row false .pt ys))[q]? = some X → X.live = true → ∃ X0, H[q]? = some X0 ∧ X0.live = true := fun q X hq hX => by
    by_cases e : q = k
    · subst e; exact ⟨_, hk, rfl⟩
    · rw [List.getElem?_set_ne (Ne.symm e)] at hq; exact ⟨X, hq, hX⟩
  refine ⟨hos.trans h.os, ht.trans h.tape, ho.trans h.output, fun b o hbo => ?_, fun q hq => h.dom q (by simpa using hq), fun q X hq hX => ?_, fun q q' a a' X X' h1 h2 h3 h4 h5 h6 h7 => ?_⟩
  · have hw := h.sealed b o hbo
    have hne : b ≠ l.blk := fun e => by rw [e, hseal] at hbo; cases hbo
    rw [hoth b hne (Array.getElem?_eq_some_iff.1 hw).1]; exact hw
  · by_cases e : q = k
    · subst e
      rw [List.getElem?_set_self hkl] at hq
      cases hq
      refine ⟨l, hl, cells', T, hb', g2, by rw [hsz]; exact g3, by rw [hlen]; exact g4, fun i j hi hj => ?_⟩
      have hj' : j < 2 := hj
      have := hc i hi
      match j, hj' with
      | 0, _ => exact ⟨_, this.1, .v _⟩
      | 1, _ => exact ⟨_, this.2, .v _⟩
    · rw [List.getElem?_set_ne (Ne.symm e)] at hq
      obtain ⟨a, ha, hB⟩ := h.box q X hq hX
      have hne : a.blk ≠ l.blk := fun eb => e (h.inj q k a l X _ hq hX hk rfl ha hl eb)
      exact ⟨a, ha, hB.carry (.refl c) (fun _ => hoth _ hne (hB.blk_lt hX)) (fun _ => rfl)⟩
  · obtain ⟨X0, g6, g7⟩ := live q X h1 h2
    obtain ⟨X1, g8, g9⟩ := live q' X' h3 h4
    exact h.inj q q' a a' X0 X1 g6 g7 g8 g9 h5 h6 h7
end Go.Eng
end
section
set_option linter.unusedSimpArgs false
set_option linter.unusedVariables false
set_option maxHeartbeats 1000000
namespace Go.Proofs.Ytfkohliggbajkaa
open Go.Shelf Go.RowKit Go.Lib Go.Sort Go.Proofs Go.Eng
def encP (x : Int × Int) : List Value := [.int .i64 x.1, .int .i64 x.2]
def cfP (x y : Int × Int) : Int := orR (Lib.compareInt x.1 y.1) (Lib.compareInt x.2 y.2)
theorem cmpLays80 (blk off size : Nat) (w : World) : CmpLays Try.prog 63 #[] encP 2 cfP blk off size w := fun _ _ _ _ x y => closure80 x y _
theorem ltOf_cfP (x y : Int × Int) : ltOf cfP x y = decide (ltP x y) := by
  unfold ltOf cfP orR Lib.compareInt ltP
  by_cases h1 : x.1 < y.1
  · simp [h1]
  · by_cases h2 : y.1 < x.1
    · have : ¬ x.1 = y.1 := by omega
      simp [h1, h2, this]
    · have e : x.1 = y.1 := by omega
      by_cases h3 : x.2 < y.2
      · simp [h1, h2, h3, e]
      · by_cases h4 : y.2 < x.2 <;> simp [h1, h2, h3, h4, e]
theorem swoP : SWO (ltOf cfP) where
  irrefl x := by rw [ltOf_cfP]; simp [ltP]
  trans x y z h1 h2 := by
    rw [ltOf_cfP] at h1 h2 ⊢
    have h1 := of_decide_eq_true h1
    have h2 := of_decide_eq_true h2
    exact decide_eq_true (by unfold ltP at *; omega)
  ntrans x y z h1 h2 := by
    rw [ltOf_cfP] at h1 h2 ⊢
    have h1 := of_decide_eq_false h1
    have h2 := of_decide_eq_false h2
    exact decide_eq_false (by unfold ltP at *; omega)
theorem sw_heap (w : World) (blk off n : Nat) (d : Array (Int × Int)) (os : Array Obj) {b : Nat} (hb : b < w.heap.size) : (sortWorldK encP 2 w blk off n d os).heap[b]? = if blk = b then (w.heap[b]?).map (onCells (putCells id off (flatK encP 2 d))) else w.heap[b]? := by
  show ((w.heap.modify blk (onCells (putCells id off (flatK encP 2 d)))) ++ os)[b]? = _
  rw [Array.getElem?_append_left (by simpa using hb), Array.getElem?_modify]
theorem agg33 (w : World) : (isAgg 33).run Try.prog w = .ok true w := by kernel_rfl
theorem size33 (w : World) : (Go.sizeOf 33).run Try.prog w = .ok 2 w := by kernel_rfl
theorem flat_at (d : Array (Int × Int)) (i : Nat) (hi : i < d.size) : (flatK encP 2 d)[i * 2 + 0]! = .int .i64 d[i]!.1 ∧ (flatK encP 2 d)[i * 2 + 1]! = .int .i64 d[i]!.2 := by
  constructor
  · rw [get_flatK encP 2 d _ (by omega), show (i * 2 + 0) / 2 = i by omega, show (i * 2 + 0) % 2 = 0 by omega]; rfl
  · rw [get_flatK encP 2 d _ (by omega), show (i * 2 + 1) / 2 = i by omega, show (i * 2 + 1) % 2 = 1 by omega]; rfl
theorem sort118_ac (xs : List (Int × Int)) (h0 : 0 < xs.length) (hx : xs.length < 1000000) (l : List ABox) (j : Nat) (hj : l[j]? = some (.row false .pt xs)) (H : List ABox) :
    AC Try.prog 62 [.sl 2 (H.length + j) 0 xs.length, .fn 63 []] (H ++ l) (fun r H' => ∃ ys : List (Int × Int), (ys.Perm xs ∧ ys.Pairwise (fun a b => ¬ ltP b a)) ∧ r = .v (.tuple #[]) ∧ H' = H ++ l.set j (.row false .pt ys)) := by
  refine ⟨⟨_, Try.func62, rfl, by decide⟩, fun c vs w hv hh => ?_⟩
  obtain ⟨hl, hv⟩ := hv
  match vs, hl with
  | [p, q], _ =>
    have e1 := hv 0 (by simp)
    have e2 := hv 1 (by simp)
    simp at e1 e2
    have hget : (H ++ l)[H.length + j]? = some (.row false .pt xs) := by rw [List.getElem?_append_right (by omega), Nat.add_sub_cancel_left]; exact hj
    obtain ⟨loc, hloc, cells, T, g1, g2, g3, g4, g5⟩ := hh.box _ _ hget rfl
    have hcells : ∀ i, i < xs.length → cells[loc.off + i * 2 + 0]? = some (.int .i64 (xs.getD i (0, 0)).1) ∧ cells[loc.off + i * 2 + 1]? = some (.int .i64 (xs.getD i (0, 0)).2) := fun i hi => by
      obtain ⟨u, hu, hr⟩ := g5 i 0 hi (by decide)
      obtain ⟨u', hu', hr'⟩ := g5 i 1 hi (by decide)
      have := hr.v_inv
      have := hr'.v_inv
      subst_vars
      exact ⟨hu, hu'⟩
    cases e2 with
    | @fn _ _ vs hl _ =>
      have : vs = [] := List.length_eq_zero_iff.1 hl.symm
      subst this
      cases e1 with
      | @sl _ _ _ _ b o l2 hl2 hn ha =>
        rw [hloc] at hl2; cases hl2
        obtain ⟨rfl, rfl⟩ := ha (by have : xs.length ≤ loc.cap := g4; omega)
        have hblk := (Array.getElem?_eq_some_iff.1 g1).1
        have hH : HoldsK encP 2 w loc.blk (loc.off + 0 * 2) xs.toArray := by
          intro t ht
          have ht' : t < xs.length * 2 := by simpa using ht
          obtain ⟨c0, c1⟩ := hcells (t / 2) (by omega)
          obtain ⟨f0, f1⟩ := flat_at xs.toArray (t / 2) (by simp; omega)
          have hd : xs.toArray[t / 2]! = xs.getD (t / 2) (0, 0) := by simp [List.getD, show t / 2 < xs.length by omega]
          rw [hd] at f0 f1
          refine ⟨?_, by simp [World.frozen?, g1]⟩
          simp only [World.cell?, g1]
          rcases Nat.mod_two_eq_zero_or_one t with h | h
          · rw [show t / 2 * 2 + 0 = t by omega] at f0
            rw [show loc.off + 0 * 2 + t = loc.off + t / 2 * 2 + 0 by omega, f0]
            exact c0
          · rw [show t / 2 * 2 + 1 = t by omega] at f1
            rw [show loc.off + 0 * 2 + t = loc.off + t / 2 * 2 + 1 by omega, f1]
            exact c1
        have eg : ∀ args w, (callFunc 63 args).run Try.prog w = .ok (.enter 63 args) w := enters_of Try.func63 (by kernel_rfl) rfl
        have h := AnyQ.slices_SortFunc sortPt 2 agg33 size33 encP (fun _ => rfl) (fun x v hv => by simp [encP] at hv; rcases hv with rfl | rfl <;> rfl) cfP swoP 63 #[] loc.blk (loc.off + 0 * 2) (loc.cap - 0) xs.toArray w eg (cmpLays80 loc.blk _ _ w) hH hblk (by simp; omega)
        change Calls Try.prog 62 #[.slice (some ⟨loc.blk, loc.off + 0 * 2, none⟩) xs.length (loc.cap - 0), .func (.func 63) #[] #[]] w _ at h
        refine h.mono ?_
        rintro e w' ⟨rfl, d', n, os, ⟨hs1, _, hp⟩, hs, rfl⟩
        have hsz : d'.size = xs.length := by simpa using hs1
        have hsl : d'.toList.length = xs.length := by simpa using hsz
        refine ⟨c, .v (.tuple #[]), _, (H ++ l).set (H.length + j) (.row false .pt d'.toList), .refl c, rfl, .v _, ?_, d'.toList, ⟨?_, ?_⟩, rfl, ?_⟩
        · have hme : (sortWorldK encP 2 w loc.blk (loc.off + 0 * 2) n d' os).heap[loc.blk]? = some (.cells (putCells id (loc.off + 0 * 2) (flatK encP 2 d') cells) T (0, 0)) := by
            rw [sw_heap w _ _ _ _ _ hblk, if_pos rfl, g1]; rfl
          refine hh.rewriteRow hget hloc g1 hme (by simp [putCells]) (fun b hb hlt => by rw [sw_heap w _ _ _ _ _ hlt, if_neg (Ne.symm hb)]) rfl rfl rfl hsl (fun i hi => ?_)
          have hi' : i < d'.size := by simpa using hi
          obtain ⟨f0, f1⟩ := flat_at d' i hi'
          have hd : d'[i]! = d'.toList.getD i (0, 0) := by simp [List.getD, hi']
          rw [hd] at f0 f1
          have hcap : loc.off + loc.cap * 2 ≤ cells.size := g3
          have hcp : xs.length ≤ loc.cap := g4
          have put : ∀ q, q < d'.size * 2 → (putCells id (loc.off + 0 * 2) (flatK encP 2 d') cells)[loc.off + q]? = some (flatK encP 2 d')[q]! := fun q hq => by
            unfold putCells
            rw [Array.getElem?_mapIdx, Array.getElem?_eq_getElem (by omega)]
            simp only [Option.map_some]
            rw [if_pos ⟨by omega, by rw [size_flatK]; omega⟩, show loc.off + q - (loc.off + 0 * 2) = q by omega]; rfl
          constructor
          · rw [show loc.off + i * 2 + 0 = loc.off + (i * 2 + 0) by omega, put _ (by omega), f0]
          · rw [show loc.off + i * 2 + 1 = loc.off + (i * 2 + 1) by omega, put _ (by omega), f1]
        · have e : d'.extract 0 xs.toArray.size = d' := by rw [← hs1]; simp
          rw [e] at hp
          simpa using hp
        · refine List.pairwise_iff_getElem.2 fun a b ha hb hab => ?_
          have h1 := hs a b (Nat.zero_le _) hab (by simp at hb; simp; omega)
          rw [ltOf_cfP] at h1
          have h1 := of_decide_eq_false h1
          have ha' : a < d'.size := by simpa using ha
          have hb' : b < d'.size := by simpa using hb
          simpa [ha', hb'] using h1
        · rw [List.set_append, if_neg (by omega), Nat.add_sub_cancel_left]
end Go.Proofs.Ytfkohliggbajkaa
end
section
set_option linter.unusedSimpArgs false
set_option linter.unusedVariables false
namespace Go.Eng
variable {P : Program} {E : Env}
theorem run_eqNil {T et : TypeId} (hT : P.underlying T = some (.slice et)) (a : Option Addr) (n cp : Nat) (w : World) (xo yo : Operand) :
    (do eqGuard .eql T xo yo (.slice a n cp) (.slice none 0 0); binOp .eql T (.slice a n cp) (.slice none 0 0) : Sem Value).run P w = .ok (.bool a.isNone) w := by
  have heq : (Op.equal T (.slice a n cp) (.slice none 0 0)).run P w = .ok a.isNone w := by
    unfold Op.equal Op.maxDepth
    rw [show (10000 : Nat) = 9999 + 1 from rfl]
    unfold Op.equalIn
    simp only [Sem.run_bind, run_underlying hT, Result.andThen_ok]
    cases a <;> rfl
  have hg : (eqGuard .eql T xo yo (.slice a n cp) (.slice none 0 0)).run P w = .ok () w := by
    cases a <;> rfl
  rw [Sem.run_bind, hg]
  simp only [Result.andThen_ok, binOp, Sem.run_bind, heq, Sem.run_pure]
/-- A region that moves a list and asks whether it is nil. -/
theorem AW.regionNil (hE : EnvOk P E) {n : Nat} {Q : Exit → St → Prop} {st : St} {id : Nat} {o1 o2 : Oper} {e : ETy} {xs : List e.T} {T et : TypeId} {t d1 d2 : Nat} (hT : P.underlying T = some (.slice et))
    (h1 : o1.op = .move (.tmp t)) (g1 : o1.guard = none) (k1 : o1.dst = some d1) (h2 : o2.op = .binOp .eql T (.tmp d1) (.const (.slice none 0 0)) T) (g2 : o2.guard = none) (k2 : o2.dst = some d2)
    (hx : lk st.slots t = .rd e xs) (hd1 : d1 < st.N) (hd2 : d2 < st.N)
    (hf : Q .normal ((st.put (some d1) (.rd e xs)).put (some d2) (.v (.bool false)))) (ht : xs = [] → Q .normal ((st.put (some d1) (.rd e xs)).put (some d2) (.v (.bool true)))) : AW P n (.region id [o1, o2].toArray false) Q st := by
  intro c a w hst
  refine wp_region_lit ?_
  have hv := hst.rel.slots t
  rw [hx] at hv
  unfold wpList
  rw [if_pos (by simp [Region.wanted, g1])]
  refine .inl (wp_value (v := a.tmps.getD t undef) (w' := w) ?_ ?_)
  · simp [execOp, h1, Act.eval]
  have hst1 : RelSt st.base.length c (st.put o1.dst (.rd e xs)) (a.put o1.dst (a.tmps.getD t undef)) w := hst.rel.put (.refl c) o1.dst (by rw [k1]; intro q hq; cases hq; exact hd1) hv hst.rel.hn hst.rel.heap
  rw [k1] at hst1 ⊢
  unfold wpList
  rw [if_pos (by simp [Region.wanted, g2])]
  have hv1 := hst1.slots d1
  have hl : lk (st.put (some d1) (.rd e xs)).slots d1 = .rd e xs := by simp [St.put, lk]
  rw [hl] at hv1
  generalize hu : (a.put (some d1) (a.tmps.getD t undef)).tmps.getD d1 undef = u at hv1
  cases hv1 with
  | @rd _ _ ad cp nn g hln hcp ha hr =>
    have hrun := run_eqNil hT ad nn cp w (.tmp d1) (.const (.slice none 0 0))
    refine .inl (wp_value (v := .bool ad.isNone) (w' := w) ?_ ?_)
    · have e1 : (a.put (some d1) (a.tmps.getD t undef)).eval (.tmp d1) = .slice ad nn cp := hu
      have e2 : (a.put (some d1) (a.tmps.getD t undef)).eval (.const (.slice none 0 0)) = .slice none 0 0 := rfl
      simp only [execOp, h2, e1, e2]
      rw [Sem.run_bind, hrun]; rfl
    · have hst2 : ∀ b, RelSt st.base.length c ((st.put (some d1) (.rd e xs)).put (some d2) (.v (.bool b))) ((a.put (some d1) (a.tmps.getD t undef)).put (some d2) (.bool b)) w := fun b => hst1.put (.refl c) (some d2) (by intro q hq; cases hq; exact hd2) (.v _) hst1.hn hst1.heap
      rw [k2]
      unfold wpList
      cases ad with
      | none =>
        have : xs = [] := by
          rcases Nat.eq_zero_or_pos nn with h | h
          · rw [h] at hln; exact List.length_eq_zero_iff.1 hln
          · obtain ⟨b, o, cells, T', fr, he, _⟩ := ha h
            cases he
        exact ⟨c, _, .refl n c, .of hst.le (hst2 true), ht this⟩
      | some A => exact ⟨c, _, .refl n c, .of hst.le (hst2 false), hf⟩
end Go.Eng
end
section
set_option linter.unusedSimpArgs false
set_option linter.unusedVariables false
set_option maxHeartbeats 1000000
namespace Go.Proofs.Ytfkohliggbajkaa
open Go.Eng
theorem clone117_ac (xs : List (Int × Int)) (h0 : 0 < xs.length) (hx : xs.length ≤ 1000000) (H : List ABox) : AC Try.prog 61 [.rd .pt (xs)] H (fun r H' => r = .sl 2 (H.length + 0) 0 xs.length ∧ H' = H ++ [.row false .pt xs]) := by
  refine AC.enter envOk Try.func61 rfl (by decide) Try.ntmps61 Try.results61 (by simp) fun hB => ?_
  refine AW.seq (AW.region envOk fun K hK => vcL_cons fun K' hK' => ?_)
  simp only [isC, Bool.false_or, Bool.or_true, vAppend, elems, ↓reduceDIte, List.take_length, Nat.le_refl, List.drop_zero, vGuard, undef, Bool.not_eq_eq_eq_not, dstOk, vcOp, vcF, isPure, putS, vcCall, St.ev, St.put, lk, AVal.ofVal, initS, Nat.reduceLT, true_and, and_true, vBin, vPart, vLoad, vBuildSl, vSlice, bnd, partsA, fillA, decAll, AVal.flat, AVal.cell, cellsOk, setRange, ETy.enc, ETy.dec, ETy.sz, ETy.d, cond, Nat.reduceBEq, Nat.reduceAdd, Int.toNat_natCast, List.length_set, List.length_append, List.length_replicate, List.length_take, Nat.reduceSub, Nat.reduceEqDiff, get_loc, setBox_loc, next_eq, List.length_cons, List.length_nil, List.map_cons, List.map_nil, List.append_nil, List.nil_append, List.cons_append, List.set_cons_zero, List.set_cons_succ, getD_zero, getD_succ, List.getElem?_cons_succ, List.getElem?_cons_zero, List.take_succ_cons, List.take_zero, List.drop_succ_cons, List.all_cons, List.all_nil, Bool.and_true, Bool.true_and, Option.bind_some, Option.map_some, Option.map_none, decide_eq_true_eq, decide_eq_false_iff_not, ne_eq, Bool.not_eq_true, Bool.not_eq_false, Decidable.not_not, not_true_eq_false, not_false_eq_true, forall_const, false_implies, Bool.true_eq_false, Bool.false_eq_true, reduceCtorEq, decide_true, decide_false, Bool.not_true, Bool.not_false, if_true, if_false, Nat.zero_add, Nat.lt_irrefl, Value.oneCell', gt_iff_lt, Nat.reduceLeDiff, Nat.lt_add_one, vSealSl, vvar_4, vzero_4, vknd_4, vsn_4, vsl_28, vkn_28, vvar_28, vzero_28]
  refine hK' _ (vcL_nil (hK _ (thenQ_n ?_)))
  clear hK' K' hK K
  refine AW.seq (AW.seq (AW.regionNil envOk (xs := xs) (e := .pt) Try.underlying28 rfl rfl rfl rfl rfl rfl rfl (show (3 : Nat) < 8 by decide) (show (4 : Nat) < 8 by decide) (thenQ_n ?_) (fun hnil => ?_)))
  · simp only [St.put]
    repeat' (first | (with_reducible first | refine AW.sreg envOk fun K hK => ?_ | refine AW.region envOk fun K hK => ?_ | refine vcL_nil ?_) | (with_reducible (first | refine vcL_cons fun K' hK' => ?_); simp only [isC, Bool.false_or, Bool.or_true, vAppend, elems, ↓reduceDIte, List.take_length, Nat.le_refl, List.drop_zero, vGuard, undef, Bool.not_eq_eq_eq_not, dstOk, vcOp, vcF, isPure, putS, vcCall, St.ev, St.put, lk, AVal.ofVal, initS, Nat.reduceLT, true_and, and_true, vBin, vPart, vLoad, vBuildSl, vSlice, bnd, partsA, fillA, decAll, AVal.flat, AVal.cell, cellsOk, setRange, ETy.enc, ETy.dec, ETy.sz, ETy.d, cond, Nat.reduceBEq, Nat.reduceAdd, Int.toNat_natCast, List.length_set, List.length_append, List.length_replicate, List.length_take, Nat.reduceSub, Nat.reduceEqDiff, get_loc, setBox_loc, next_eq, List.length_cons, List.length_nil, List.map_cons, List.map_nil, List.append_nil, List.nil_append, List.cons_append, List.set_cons_zero, List.set_cons_succ, getD_zero, getD_succ, List.getElem?_cons_succ, List.getElem?_cons_zero, List.take_succ_cons, List.take_zero, List.drop_succ_cons, List.all_cons, List.all_nil, Bool.and_true, Bool.true_and, Option.bind_some, Option.map_some, Option.map_none, decide_eq_true_eq, decide_eq_false_iff_not, ne_eq, Bool.not_eq_true, Bool.not_eq_false, Decidable.not_not, not_true_eq_false, not_false_eq_true, forall_const, false_implies, Bool.true_eq_false, Bool.false_eq_true, reduceCtorEq, decide_true, decide_false, Bool.not_true, Bool.not_false, if_true, if_false, Nat.zero_add, Nat.lt_irrefl, Value.oneCell', gt_iff_lt, Nat.reduceLeDiff, Nat.lt_add_one, vSealSl, vvar_4, vzero_4, vknd_4, vsn_4, vsl_28, vkn_28, vvar_28, vzero_28]; try simp (disch := omega) only [wrap64]) | (with_reducible refine hK' _ ?_; clear hK' K') | (with_reducible refine hK _ ?_; clear hK K) | (with_reducible first | refine And.intro (And.intro rfl rfl) ?_ | refine And.intro (by omega) ?_) | (with_reducible refine And.intro (fun hg => ?_) (fun hg => ?_) <;> first | simp only [eq_false hg, decide_true, decide_false, and_true, true_and, and_false, false_and, not_true_eq_false, not_false_eq_true] | simp only [eq_true hg, decide_true, decide_false, and_true, true_and, and_false, false_and, not_true_eq_false, not_false_eq_true] | simp only [hg, decide_true, decide_false, and_true, true_and, and_false, false_and, not_true_eq_false, not_false_eq_true]) | (with_reducible first | refine And.intro rfl (And.intro rfl rfl) | refine thenQ_n ?_ | refine thenQ_exit ?_ | refine thenQ_ret ?_ | refine midQ_ret ?_ | refine midQ_exit ?_ | refine blockQ_same ?_ | refine blockQ_ne (by decide) ?_ | refine blockQ_ret ?_ | refine blockQ_n ?_ | refine AW.exit ?_ | refine AW.block ?_ | refine AW.cond_t rfl ?_ | refine AW.cond_f rfl ?_ | refine AW.cond_dec rfl (fun hc => ?_) (fun hc => ?_)) | (with_reducible refine AW.cond rfl (fun hc => ?_) (fun hc => ?_) <;> try simp only [Bool.not_eq_eq_eq_not, Bool.not_true, Bool.not_false, decide_eq_true_eq, decide_eq_false_iff_not] at hc) | (with_reducible first | refine AW.seq ?_ | refine AW.skip ?_ | refine AW.ret ?_ | refine And.intro ?_ ?_) | (with_reducible intro hg; first | simp only [eq_false hg, decide_true, decide_false, and_true, true_and, and_false, false_and, not_true_eq_false, not_false_eq_true] | simp only [eq_true hg, decide_true, decide_false, and_true, true_and, and_false, false_and, not_true_eq_false, not_false_eq_true]) | (with_reducible refine retQ_drop ?_; simp only [vRes, packRes, vLoad, vPart, lk, cond, Nat.reduceBEq, get_loc, getD_zero, getD_succ, true_and, List.length_cons, List.length_nil, Nat.reduceAdd, Nat.reduceLT, Nat.reduceLeDiff, List.take_succ_cons, List.take_zero, List.drop_succ_cons, List.drop_zero, vvar_4, vzero_4, vknd_4, vsn_4, vsl_28, vkn_28, vvar_28, vzero_28]) )
    exact ⟨_, _, FinOk.keep [1] (L := [.row false .pt xs]) hB (by decide) ⟨RenB.plRow rfl, by simp, trivial⟩ (RenV.sl (j := 0) rfl), rfl, rfl⟩
  · subst hnil; simp at h0
end Go.Proofs.Ytfkohliggbajkaa
end
section
set_option linter.unusedSimpArgs false
set_option linter.unusedVariables false
set_option maxHeartbeats 1000000
namespace Go.Proofs.Ytfkohliggbajkaa
open Go.Eng
theorem ins126_ac (X : AVal) (H : List ABox) : AC Try.prog 70 [X, .v (.int .i64 (0)), .v (.int .i64 (0)), .fn 63 []] H (fun r H' => r = .tup [] ∧ H' = H) := by
  refine AC.enter envOk Try.func70 rfl (by decide) Try.ntmps70 Try.results70 (by simp) fun hB => ?_
  repeat' (first | (with_reducible refine AW.dreg (id := 6) envOk mixed [(false, 0, 0), (false, 0, 0), (false, 0, 1), (false, 0, 1), (false, 0, 1), (false, 0, 0), (false, 0, 0), (false, 0, 0), (false, 0, 0), (false, 0, 0), (false, 0, 0), (false, 0, 0), (false, 0, 0), (false, 0, 0), (false, 0, 0), (true, 0, 0), (false, 1, 1), (true, 0, 0)] ?_ ?_ fun K hK => ?_; kernel_rfl; (first | rfl | exact base_len | exact base_len0)) | (with_reducible refine AW.dregion (id := 6) envOk mixed [(false, 0, 0), (false, 0, 0), (false, 0, 1), (false, 0, 1), (false, 0, 1), (false, 0, 0), (false, 0, 0), (false, 0, 0), (false, 0, 0), (false, 0, 0), (false, 0, 0), (false, 0, 0), (false, 0, 0), (false, 0, 0), (false, 0, 0), (true, 0, 0), (false, 1, 1), (true, 0, 0)] ?_ ?_ fun K hK => ?_; kernel_rfl; (first | rfl | exact base_len | exact base_len0)) | (with_reducible refine vcDr_nil ?_) | (with_reducible refine hK' _ _ _ _ _ ?_; clear hK' K') | (with_reducible refine hK _ _ ?_; clear hK K; dsimp only) | (with_reducible first | refine AW.sreg envOk fun K hK => ?_ | refine AW.region envOk fun K hK => ?_) | (with_reducible refine AW.d0reg envOk mixed ?_ ?_ fun K hK => ?_; (first | rfl | exact base_len | exact base_len0); kernel_rfl) | (with_reducible refine AW.d0 envOk mixed ?_ ?_ fun K hK => ?_; (first | rfl | exact base_len | exact base_len0); kernel_rfl) | (with_reducible first | refine vcD_nil ?_ | refine vcL_nil ?_) | (with_reducible (first | refine vcDr_cons fun K' hK' => ?_ | refine vcD_cons fun K' hK' => ?_ | refine vcL_cons fun K' hK' => ?_); simp only [isC, Bool.false_or, Bool.or_true, ↓reduceDIte, List.take_length, Nat.le_refl, List.drop_zero, vGuard, undef, Bool.not_eq_eq_eq_not, dstOk, vcOp, vcF, isPure, putS, vcCall, St.ev, St.put, lk, AVal.ofVal, initS, Nat.reduceLT, true_and, and_true, vBin, vPick, vPart, vLoad, vStore, vIdxA, AVal.flat, AVal.cell, cellsOk, setRange, ETy.enc, ETy.dec, ETy.sz, ETy.d, cond, Nat.reduceBEq, Nat.reduceAdd, Int.toNat_natCast, List.length_set, List.length_append, List.length_replicate, List.length_take, Nat.reduceSub, Nat.reduceEqDiff, get_loc, setBox_loc, next_eq, List.length_cons, List.length_nil, List.map_cons, List.map_nil, List.append_nil, List.nil_append, List.cons_append, List.set_cons_zero, List.set_cons_succ, getD_zero, getD_succ, List.getElem?_cons_succ, List.getElem?_cons_zero, List.take_succ_cons, List.take_zero, List.drop_succ_cons, List.all_cons, List.all_nil, Bool.and_true, Bool.true_and, Option.bind_some, Option.map_some, Option.map_none, decide_eq_true_eq, decide_eq_false_iff_not, ne_eq, Bool.not_eq_true, Bool.not_eq_false, Decidable.not_not, not_true_eq_false, not_false_eq_true, forall_const, false_implies, Bool.true_eq_false, Bool.false_eq_true, reduceCtorEq, decide_true, decide_false, Bool.not_true, Bool.not_false, if_true, if_false, Nat.zero_add, Nat.lt_irrefl, Value.oneCell', gt_iff_lt, Nat.reduceLeDiff, Nat.lt_add_one, vvar_3, vzero_3, vknd_3, vsn_3, vvar_4, vzero_4, vknd_4, vsn_4, vsl_28, vkn_28, vvar_28, vzero_28, vvar_33, vzero_33, vbld_33, vpts_33, vvar_87, vzero_87, effI, loI, hiI, pendOk, pastOk, OpOK, Nat.not_lt_zero, Nat.le_zero_eq, Nat.add_eq_zero_iff, Nat.one_ne_zero, and_false, Nat.zero_le, true_implies]; try simp (disch := omega) only [wrap64]) | (with_reducible refine hK' _ ?_; clear hK' K') | (with_reducible refine hK _ ?_; clear hK K) | (with_reducible first | refine And.intro (And.intro rfl rfl) ?_ | refine And.intro (by omega) ?_) | (with_reducible refine And.intro (fun hg => ?_) (fun hg => ?_) <;> first | simp only [eq_false hg, decide_true, decide_false, and_true, true_and, and_false, false_and, not_true_eq_false, not_false_eq_true] | simp only [eq_true hg, decide_true, decide_false, and_true, true_and, and_false, false_and, not_true_eq_false, not_false_eq_true] | simp only [hg, decide_true, decide_false, and_true, true_and, and_false, false_and, not_true_eq_false, not_false_eq_true]) | (with_reducible first | refine And.intro rfl (And.intro rfl rfl) | refine thenQ_n ?_ | refine thenQ_exit ?_ | refine thenQ_ret ?_ | refine midQ_ret ?_ | refine midQ_exit ?_ | refine blockQ_same ?_ | refine blockQ_ne (by decide) ?_ | refine blockQ_ret ?_ | refine blockQ_n ?_ | refine AW.exit ?_ | refine AW.block ?_ | refine AW.cond_t rfl ?_ | refine AW.cond_f rfl ?_ | refine AW.cond_dec rfl (fun hc => ?_) (fun hc => ?_)) | (with_reducible refine AW.cond rfl (fun hc => ?_) (fun hc => ?_) <;> try simp only [Bool.not_eq_eq_eq_not, Bool.not_true, Bool.not_false, decide_eq_true_eq, decide_eq_false_iff_not] at hc) | (with_reducible first | refine AW.seq ?_ | refine AW.skip ?_ | refine AW.ret ?_ | refine And.intro ?_ ?_) | (with_reducible intro hg; first | simp only [eq_false hg, decide_true, decide_false, and_true, true_and, and_false, false_and, not_true_eq_false, not_false_eq_true] | simp only [eq_true hg, decide_true, decide_false, and_true, true_and, and_false, false_and, not_true_eq_false, not_false_eq_true]) | (with_reducible refine retQ_drop ?_; simp only [vRes, packRes, vLoad, vPart, lk, cond, Nat.reduceBEq, get_loc, getD_zero, getD_succ, true_and, List.length_cons, List.length_nil, Nat.reduceAdd, Nat.reduceLT, Nat.reduceLeDiff, List.take_succ_cons, List.take_zero, List.drop_succ_cons, List.drop_zero, vvar_3, vzero_3, vknd_3, vsn_3, vvar_4, vzero_4, vknd_4, vsn_4, vsl_28, vkn_28, vvar_28, vzero_28, vvar_33, vzero_33, vbld_33, vpts_33, vvar_87, vzero_87]) )
  refine AW.loop (fun _ : Nat => (⟨53, [(2, .v (.int .i64 (0))), (8, .v (.int .i64 (1)))], H, []⟩ : St)) (fun i => True) (fun i => 0) 0 trivial ?_ ?_
  · exact (Weak.slots (by repeat' first | exact trivial | exact ⟨rfl, trivial⟩ | refine ⟨rfl, ?_⟩))
  · intro i hi
    repeat' (first | (with_reducible refine AW.dreg (id := 6) envOk mixed [(false, 0, 0), (false, 0, 0), (false, 0, 1), (false, 0, 1), (false, 0, 1), (false, 0, 0), (false, 0, 0), (false, 0, 0), (false, 0, 0), (false, 0, 0), (false, 0, 0), (false, 0, 0), (false, 0, 0), (false, 0, 0), (false, 0, 0), (true, 0, 0), (false, 1, 1), (true, 0, 0)] ?_ ?_ fun K hK => ?_; kernel_rfl; (first | rfl | exact base_len | exact base_len0)) | (with_reducible refine AW.dregion (id := 6) envOk mixed [(false, 0, 0), (false, 0, 0), (false, 0, 1), (false, 0, 1), (false, 0, 1), (false, 0, 0), (false, 0, 0), (false, 0, 0), (false, 0, 0), (false, 0, 0), (false, 0, 0), (false, 0, 0), (false, 0, 0), (false, 0, 0), (false, 0, 0), (true, 0, 0), (false, 1, 1), (true, 0, 0)] ?_ ?_ fun K hK => ?_; kernel_rfl; (first | rfl | exact base_len | exact base_len0)) | (with_reducible refine vcDr_nil ?_) | (with_reducible refine hK' _ _ _ _ _ ?_; clear hK' K') | (with_reducible refine hK _ _ ?_; clear hK K; dsimp only) | (with_reducible first | refine AW.sreg envOk fun K hK => ?_ | refine AW.region envOk fun K hK => ?_) | (with_reducible refine AW.d0reg envOk mixed ?_ ?_ fun K hK => ?_; (first | rfl | exact base_len | exact base_len0); kernel_rfl) | (with_reducible refine AW.d0 envOk mixed ?_ ?_ fun K hK => ?_; (first | rfl | exact base_len | exact base_len0); kernel_rfl) | (with_reducible first | refine vcD_nil ?_ | refine vcL_nil ?_) | (with_reducible (first | refine vcDr_cons fun K' hK' => ?_ | refine vcD_cons fun K' hK' => ?_ | refine vcL_cons fun K' hK' => ?_); simp only [isC, Bool.false_or, Bool.or_true, ↓reduceDIte, List.take_length, Nat.le_refl, List.drop_zero, vGuard, undef, Bool.not_eq_eq_eq_not, dstOk, vcOp, vcF, isPure, putS, vcCall, St.ev, St.put, lk, AVal.ofVal, initS, Nat.reduceLT, true_and, and_true, vBin, vPick, vPart, vLoad, vStore, vIdxA, AVal.flat, AVal.cell, cellsOk, setRange, ETy.enc, ETy.dec, ETy.sz, ETy.d, cond, Nat.reduceBEq, Nat.reduceAdd, Int.toNat_natCast, List.length_set, List.length_append, List.length_replicate, List.length_take, Nat.reduceSub, Nat.reduceEqDiff, get_loc, setBox_loc, next_eq, List.length_cons, List.length_nil, List.map_cons, List.map_nil, List.append_nil, List.nil_append, List.cons_append, List.set_cons_zero, List.set_cons_succ, getD_zero, getD_succ, List.getElem?_cons_succ, List.getElem?_cons_zero, List.take_succ_cons, List.take_zero, List.drop_succ_cons, List.all_cons, List.all_nil, Bool.and_true, Bool.true_and, Option.bind_some, Option.map_some, Option.map_none, decide_eq_true_eq, decide_eq_false_iff_not, ne_eq, Bool.not_eq_true, Bool.not_eq_false, Decidable.not_not, not_true_eq_false, not_false_eq_true, forall_const, false_implies, Bool.true_eq_false, Bool.false_eq_true, reduceCtorEq, decide_true, decide_false, Bool.not_true, Bool.not_false, if_true, if_false, Nat.zero_add, Nat.lt_irrefl, Value.oneCell', gt_iff_lt, Nat.reduceLeDiff, Nat.lt_add_one, vvar_3, vzero_3, vknd_3, vsn_3, vvar_4, vzero_4, vknd_4, vsn_4, vsl_28, vkn_28, vvar_28, vzero_28, vvar_33, vzero_33, vbld_33, vpts_33, vvar_87, vzero_87, effI, loI, hiI, pendOk, pastOk, OpOK, Nat.not_lt_zero, Nat.le_zero_eq, Nat.add_eq_zero_iff, Nat.one_ne_zero, and_false, Nat.zero_le, true_implies]; try simp (disch := omega) only [wrap64]) | (with_reducible refine hK' _ ?_; clear hK' K') | (with_reducible refine hK _ ?_; clear hK K) | (with_reducible first | refine And.intro (And.intro rfl rfl) ?_ | refine And.intro (by omega) ?_) | (with_reducible refine And.intro (fun hg => ?_) (fun hg => ?_) <;> first | simp only [eq_false hg, decide_true, decide_false, and_true, true_and, and_false, false_and, not_true_eq_false, not_false_eq_true] | simp only [eq_true hg, decide_true, decide_false, and_true, true_and, and_false, false_and, not_true_eq_false, not_false_eq_true] | simp only [hg, decide_true, decide_false, and_true, true_and, and_false, false_and, not_true_eq_false, not_false_eq_true]) | (with_reducible first | refine And.intro rfl (And.intro rfl rfl) | refine thenQ_n ?_ | refine thenQ_exit ?_ | refine thenQ_ret ?_ | refine midQ_ret ?_ | refine midQ_exit ?_ | refine blockQ_same ?_ | refine blockQ_ne (by decide) ?_ | refine blockQ_ret ?_ | refine blockQ_n ?_ | refine AW.exit ?_ | refine AW.block ?_ | refine AW.cond_t rfl ?_ | refine AW.cond_f rfl ?_ | refine AW.cond_dec rfl (fun hc => ?_) (fun hc => ?_)) | (with_reducible refine AW.cond rfl (fun hc => ?_) (fun hc => ?_) <;> try simp only [Bool.not_eq_eq_eq_not, Bool.not_true, Bool.not_false, decide_eq_true_eq, decide_eq_false_iff_not] at hc) | (with_reducible first | refine AW.seq ?_ | refine AW.skip ?_ | refine AW.ret ?_ | refine And.intro ?_ ?_) | (with_reducible intro hg; first | simp only [eq_false hg, decide_true, decide_false, and_true, true_and, and_false, false_and, not_true_eq_false, not_false_eq_true] | simp only [eq_true hg, decide_true, decide_false, and_true, true_and, and_false, false_and, not_true_eq_false, not_false_eq_true]) | (with_reducible refine retQ_drop ?_; simp only [vRes, packRes, vLoad, vPart, lk, cond, Nat.reduceBEq, get_loc, getD_zero, getD_succ, true_and, List.length_cons, List.length_nil, Nat.reduceAdd, Nat.reduceLT, Nat.reduceLeDiff, List.take_succ_cons, List.take_zero, List.drop_succ_cons, List.drop_zero, vvar_3, vzero_3, vknd_3, vsn_3, vvar_4, vzero_4, vknd_4, vsn_4, vsl_28, vkn_28, vvar_28, vzero_28, vvar_33, vzero_33, vbld_33, vpts_33, vvar_87, vzero_87]) )
    exact ⟨_, _, FinOk.drop hB (.tup (fun i hi => by simp at hi)), rfl, rfl⟩
theorem pdq122_ac (X : AVal) (n : Int) (H : List ABox) : AC Try.prog 66 [X, .v (.int .i64 (0)), .v (.int .i64 (0)), .v (.int .i64 (n)), .fn 63 []] H (fun r H' => r = .tup [] ∧ H' = H) := by
  refine AC.enter envOk Try.func66 rfl (by decide) Try.ntmps66 Try.results66 (by simp) fun hB => ?_
  repeat' (first | (with_reducible first | refine AW.sreg envOk fun K hK => ?_ | refine AW.region envOk fun K hK => ?_) | (with_reducible refine AW.d0reg envOk mixed ?_ ?_ fun K hK => ?_; (first | rfl | exact base_len | exact base_len0); kernel_rfl) | (with_reducible refine AW.d0 envOk mixed ?_ ?_ fun K hK => ?_; (first | rfl | exact base_len | exact base_len0); kernel_rfl) | (with_reducible first | refine vcD_nil ?_ | refine vcL_nil ?_) | (with_reducible (first | refine vcD_cons fun K' hK' => ?_ | refine vcL_cons fun K' hK' => ?_); simp only [isC, Bool.false_or, Bool.or_true, ↓reduceDIte, List.take_length, Nat.le_refl, List.drop_zero, vGuard, undef, Bool.not_eq_eq_eq_not, dstOk, vcOp, vcF, isPure, putS, vcCall, St.ev, St.put, lk, AVal.ofVal, initS, Nat.reduceLT, true_and, and_true, vBin, vUn, vPick, vPart, vLoad, vIdxA, vExt, AVal.flat, AVal.cell, cellsOk, setRange, ETy.enc, ETy.dec, ETy.sz, ETy.d, cond, Nat.reduceBEq, Nat.reduceAdd, Int.toNat_natCast, List.length_set, List.length_append, List.length_replicate, List.length_take, Nat.reduceSub, Nat.reduceEqDiff, get_loc, setBox_loc, next_eq, List.length_cons, List.length_nil, List.map_cons, List.map_nil, List.append_nil, List.nil_append, List.cons_append, List.set_cons_zero, List.set_cons_succ, getD_zero, getD_succ, List.getElem?_cons_succ, List.getElem?_cons_zero, List.take_succ_cons, List.take_zero, List.drop_succ_cons, List.all_cons, List.all_nil, Bool.and_true, Bool.true_and, Option.bind_some, Option.map_some, Option.map_none, decide_eq_true_eq, decide_eq_false_iff_not, ne_eq, Bool.not_eq_true, Bool.not_eq_false, Decidable.not_not, not_true_eq_false, not_false_eq_true, forall_const, false_implies, Bool.true_eq_false, Bool.false_eq_true, reduceCtorEq, decide_true, decide_false, Bool.not_true, Bool.not_false, if_true, if_false, Nat.zero_add, Nat.lt_irrefl, Value.oneCell', gt_iff_lt, Nat.reduceLeDiff, Nat.lt_add_one, vvar_3, vzero_3, vknd_3, vsn_3, vvar_4, vzero_4, vknd_4, vsn_4, vsl_28, vkn_28, vvar_28, vzero_28, vvar_33, vzero_33, vbld_33, vpts_33, vvar_87, vzero_87, vvar_95, vzero_95, vknd_95, vsn_95]; try simp (disch := omega) only [wrap64]) | (with_reducible refine hK' _ ?_; clear hK' K') | (with_reducible refine hK _ ?_; clear hK K) | (with_reducible first | refine And.intro (And.intro rfl rfl) ?_ | refine And.intro (by omega) ?_) | (with_reducible refine And.intro (fun hg => ?_) (fun hg => ?_) <;> first | simp only [eq_false hg, decide_true, decide_false, and_true, true_and, and_false, false_and, not_true_eq_false, not_false_eq_true] | simp only [eq_true hg, decide_true, decide_false, and_true, true_and, and_false, false_and, not_true_eq_false, not_false_eq_true] | simp only [hg, decide_true, decide_false, and_true, true_and, and_false, false_and, not_true_eq_false, not_false_eq_true]) | (with_reducible first | refine And.intro rfl (And.intro rfl rfl) | refine thenQ_n ?_ | refine thenQ_exit ?_ | refine thenQ_ret ?_ | refine midQ_ret ?_ | refine midQ_exit ?_ | refine blockQ_same ?_ | refine blockQ_ne (by decide) ?_ | refine blockQ_ret ?_ | refine blockQ_n ?_ | refine AW.exit ?_ | refine AW.block ?_ | refine AW.cond_t rfl ?_ | refine AW.cond_f rfl ?_ | refine AW.cond_dec rfl (fun hc => ?_) (fun hc => ?_)) | (with_reducible refine AW.cond rfl (fun hc => ?_) (fun hc => ?_) <;> try simp only [Bool.not_eq_eq_eq_not, Bool.not_true, Bool.not_false, decide_eq_true_eq, decide_eq_false_iff_not] at hc) | (with_reducible first | refine AW.seq ?_ | refine AW.skip ?_ | refine AW.ret ?_ | refine And.intro ?_ ?_) | (with_reducible intro hg; first | simp only [eq_false hg, decide_true, decide_false, and_true, true_and, and_false, false_and, not_true_eq_false, not_false_eq_true] | simp only [eq_true hg, decide_true, decide_false, and_true, true_and, and_false, false_and, not_true_eq_false, not_false_eq_true]) | (with_reducible refine retQ_drop ?_; simp only [vRes, packRes, vLoad, vPart, lk, cond, Nat.reduceBEq, get_loc, getD_zero, getD_succ, true_and, List.length_cons, List.length_nil, Nat.reduceAdd, Nat.reduceLT, Nat.reduceLeDiff, List.take_succ_cons, List.take_zero, List.drop_succ_cons, List.drop_zero, vvar_3, vzero_3, vknd_3, vsn_3, vvar_4, vzero_4, vknd_4, vsn_4, vsl_28, vkn_28, vvar_28, vzero_28, vvar_33, vzero_33, vbld_33, vpts_33, vvar_87, vzero_87, vvar_95, vzero_95, vknd_95, vsn_95]) )
  refine AW.loop (fun _ : Nat => (⟨148, [(0, X), (1, .v (.int .i64 (0))), (2, .v (.int .i64 (0))), (3, .v (.int .i64 (n))), (4, .fn 63 [])], H, []⟩ : St)) (fun i => True) (fun i => 0) 0 trivial ?_ ?_
  · exact (Weak.slots (by repeat' first | exact trivial | exact ⟨rfl, trivial⟩ | refine ⟨rfl, ?_⟩))
  · intro i hi
    repeat' (first | (with_reducible first | refine AW.sreg envOk fun K hK => ?_ | refine AW.region envOk fun K hK => ?_) | (with_reducible refine AW.d0reg envOk mixed ?_ ?_ fun K hK => ?_; (first | rfl | exact base_len | exact base_len0); kernel_rfl) | (with_reducible refine AW.d0 envOk mixed ?_ ?_ fun K hK => ?_; (first | rfl | exact base_len | exact base_len0); kernel_rfl) | (with_reducible first | refine vcD_nil ?_ | refine vcL_nil ?_) | (with_reducible (first | refine vcD_cons fun K' hK' => ?_ | refine vcL_cons fun K' hK' => ?_); simp only [isC, Bool.false_or, Bool.or_true, ↓reduceDIte, List.take_length, Nat.le_refl, List.drop_zero, vGuard, undef, Bool.not_eq_eq_eq_not, dstOk, vcOp, vcF, isPure, putS, vcCall, St.ev, St.put, lk, AVal.ofVal, initS, Nat.reduceLT, true_and, and_true, vBin, vUn, vPick, vPart, vLoad, vIdxA, vExt, AVal.flat, AVal.cell, cellsOk, setRange, ETy.enc, ETy.dec, ETy.sz, ETy.d, cond, Nat.reduceBEq, Nat.reduceAdd, Int.toNat_natCast, List.length_set, List.length_append, List.length_replicate, List.length_take, Nat.reduceSub, Nat.reduceEqDiff, get_loc, setBox_loc, next_eq, List.length_cons, List.length_nil, List.map_cons, List.map_nil, List.append_nil, List.nil_append, List.cons_append, List.set_cons_zero, List.set_cons_succ, getD_zero, getD_succ, List.getElem?_cons_succ, List.getElem?_cons_zero, List.take_succ_cons, List.take_zero, List.drop_succ_cons, List.all_cons, List.all_nil, Bool.and_true, Bool.true_and, Option.bind_some, Option.map_some, Option.map_none, decide_eq_true_eq, decide_eq_false_iff_not, ne_eq, Bool.not_eq_true, Bool.not_eq_false, Decidable.not_not, not_true_eq_false, not_false_eq_true, forall_const, false_implies, Bool.true_eq_false, Bool.false_eq_true, reduceCtorEq, decide_true, decide_false, Bool.not_true, Bool.not_false, if_true, if_false, Nat.zero_add, Nat.lt_irrefl, Value.oneCell', gt_iff_lt, Nat.reduceLeDiff, Nat.lt_add_one, vvar_3, vzero_3, vknd_3, vsn_3, vvar_4, vzero_4, vknd_4, vsn_4, vsl_28, vkn_28, vvar_28, vzero_28, vvar_33, vzero_33, vbld_33, vpts_33, vvar_87, vzero_87, vvar_95, vzero_95, vknd_95, vsn_95]; try simp (disch := omega) only [wrap64]) | (with_reducible refine hK' _ ?_; clear hK' K') | (with_reducible refine hK _ ?_; clear hK K) | (with_reducible first | refine vcC_pure (ins126_ac _ _) ?_ | refine vCall_pure (ins126_ac _ _) ?_ | refine And.intro (And.intro rfl rfl) ?_ | refine And.intro (by omega) ?_) | (with_reducible refine And.intro (fun hg => ?_) (fun hg => ?_) <;> first | simp only [eq_false hg, decide_true, decide_false, and_true, true_and, and_false, false_and, not_true_eq_false, not_false_eq_true] | simp only [eq_true hg, decide_true, decide_false, and_true, true_and, and_false, false_and, not_true_eq_false, not_false_eq_true] | simp only [hg, decide_true, decide_false, and_true, true_and, and_false, false_and, not_true_eq_false, not_false_eq_true]) | (with_reducible first | refine And.intro rfl (And.intro rfl rfl) | refine thenQ_n ?_ | refine thenQ_exit ?_ | refine thenQ_ret ?_ | refine midQ_ret ?_ | refine midQ_exit ?_ | refine blockQ_same ?_ | refine blockQ_ne (by decide) ?_ | refine blockQ_ret ?_ | refine blockQ_n ?_ | refine AW.exit ?_ | refine AW.block ?_ | refine AW.cond_t rfl ?_ | refine AW.cond_f rfl ?_ | refine AW.cond_dec rfl (fun hc => ?_) (fun hc => ?_)) | (with_reducible refine AW.cond rfl (fun hc => ?_) (fun hc => ?_) <;> try simp only [Bool.not_eq_eq_eq_not, Bool.not_true, Bool.not_false, decide_eq_true_eq, decide_eq_false_iff_not] at hc) | (with_reducible first | refine AW.seq ?_ | refine AW.skip ?_ | refine AW.ret ?_ | refine And.intro ?_ ?_) | (with_reducible intro hg; first | simp only [eq_false hg, decide_true, decide_false, and_true, true_and, and_false, false_and, not_true_eq_false, not_false_eq_true] | simp only [eq_true hg, decide_true, decide_false, and_true, true_and, and_false, false_and, not_true_eq_false, not_false_eq_true]) | (with_reducible refine retQ_drop ?_; simp only [vRes, packRes, vLoad, vPart, lk, cond, Nat.reduceBEq, get_loc, getD_zero, getD_succ, true_and, List.length_cons, List.length_nil, Nat.reduceAdd, Nat.reduceLT, Nat.reduceLeDiff, List.take_succ_cons, List.take_zero, List.drop_succ_cons, List.drop_zero, vvar_3, vzero_3, vknd_3, vsn_3, vvar_4, vzero_4, vknd_4, vsn_4, vsl_28, vkn_28, vvar_28, vzero_28, vvar_33, vzero_33, vbld_33, vpts_33, vvar_87, vzero_87, vvar_95, vzero_95, vknd_95, vsn_95]) )
    · exact ⟨_, _, FinOk.drop hB (.tup (fun i hi => by simp at hi)), rfl, rfl⟩
    all_goals skip
theorem len123_ac (H : List ABox) : AC Try.prog 67 [.v (.int .u64 0)] H (fun r H' => ∃ n : Int, True ∧ r = .v (.int .i64 (n)) ∧ H' = H) := by
  refine ⟨⟨_, Try.func67, rfl, by decide⟩, fun cx vs w hv hh => ?_⟩
  obtain ⟨hl, hv⟩ := hv
  match vs, hl with
  | [p], _ =>
    have e1 := (hv 0 (by simp)).v_inv
    simp at e1
    subst e1
    have h := Any.bits_Len (SlLaysF0.n15.bits (P := Try.prog) { sortPt with }) 0 w (by omega) (by omega)
    refine (show Calls Try.prog 67 #[.int .u64 0] w _ from h).mono ?_
    rintro e w' ⟨rfl, rfl⟩
    exact ⟨cx, _, _, _, .refl cx, rfl, .v _, hh, _, trivial, rfl, rfl⟩
theorem sort118n_ac (X : AVal) (hX : X = .v (.slice none 0 0) ∨ ∃ k, X = .sl 2 k 0 0) (H : List ABox) : AC Try.prog 62 [X, .fn 63 []] H (fun r H' => r = .tup [] ∧ H' = H) := by
  rcases hX with rfl | ⟨k, rfl⟩
  all_goals
    have hw0 : IntKind.u64.wrap 0 = 0 := by decide
    refine AC.enter envOk Try.func62 rfl (by decide) Try.ntmps62 Try.results62 (by simp) fun hB => ?_
    repeat' (first | (with_reducible first | refine AW.sreg envOk fun K hK => ?_ | refine AW.region envOk fun K hK => ?_ | refine vcL_nil ?_) | (with_reducible (first | refine vcL_cons fun K' hK' => ?_); simp only [isC, Bool.false_or, Bool.or_true, ↓reduceDIte, List.take_length, Nat.le_refl, List.drop_zero, vGuard, undef, Bool.not_eq_eq_eq_not, dstOk, vcOp, vcF, isPure, putS, vcCall, St.ev, St.put, lk, AVal.ofVal, initS, Nat.reduceLT, true_and, and_true, vConv, vPart, vLoad, vLen, AVal.flat, AVal.cell, cellsOk, setRange, ETy.enc, ETy.dec, ETy.sz, ETy.d, cond, Nat.reduceBEq, Nat.reduceAdd, Int.toNat_natCast, List.length_set, List.length_append, List.length_replicate, List.length_take, Nat.reduceSub, Nat.reduceEqDiff, get_loc, setBox_loc, next_eq, List.length_cons, List.length_nil, List.map_cons, List.map_nil, List.append_nil, List.nil_append, List.cons_append, List.set_cons_zero, List.set_cons_succ, getD_zero, getD_succ, List.getElem?_cons_succ, List.getElem?_cons_zero, List.take_succ_cons, List.take_zero, List.drop_succ_cons, List.all_cons, List.all_nil, Bool.and_true, Bool.true_and, Option.bind_some, Option.map_some, Option.map_none, decide_eq_true_eq, decide_eq_false_iff_not, ne_eq, Bool.not_eq_true, Bool.not_eq_false, Decidable.not_not, not_true_eq_false, not_false_eq_true, forall_const, false_implies, Bool.true_eq_false, Bool.false_eq_true, reduceCtorEq, decide_true, decide_false, Bool.not_true, Bool.not_false, if_true, if_false, Nat.zero_add, Nat.lt_irrefl, Value.oneCell', gt_iff_lt, Nat.reduceLeDiff, Nat.lt_add_one, vvar_3, vzero_3, vknd_3, vsn_3, vsl_28, vkn_28, vvar_28, vzero_28, vvar_87, vzero_87, vvar_91, vzero_91, vknd_91, vsn_91, hw0, Int.natCast_zero]; try simp (disch := omega) only [wrap64]) | (with_reducible refine hK' _ ?_; clear hK' K') | (with_reducible refine hK _ ?_; clear hK K) | (with_reducible first | refine vCall_ex (len123_ac _) (fun n hn => ?_) | refine vCall_pure (pdq122_ac _ n _) ?_ | refine And.intro (And.intro rfl rfl) ?_ | refine And.intro (by omega) ?_) | (with_reducible refine And.intro (fun hg => ?_) (fun hg => ?_) <;> first | simp only [eq_false hg, decide_true, decide_false, and_true, true_and, and_false, false_and, not_true_eq_false, not_false_eq_true] | simp only [eq_true hg, decide_true, decide_false, and_true, true_and, and_false, false_and, not_true_eq_false, not_false_eq_true] | simp only [hg, decide_true, decide_false, and_true, true_and, and_false, false_and, not_true_eq_false, not_false_eq_true]) | (with_reducible first | refine And.intro rfl (And.intro rfl rfl) | refine thenQ_n ?_ | refine thenQ_exit ?_ | refine thenQ_ret ?_ | refine midQ_ret ?_ | refine midQ_exit ?_ | refine blockQ_same ?_ | refine blockQ_ne (by decide) ?_ | refine blockQ_ret ?_ | refine blockQ_n ?_ | refine AW.exit ?_ | refine AW.block ?_ | refine AW.cond_t rfl ?_ | refine AW.cond_f rfl ?_ | refine AW.cond_dec rfl (fun hc => ?_) (fun hc => ?_)) | (with_reducible refine AW.cond rfl (fun hc => ?_) (fun hc => ?_) <;> try simp only [Bool.not_eq_eq_eq_not, Bool.not_true, Bool.not_false, decide_eq_true_eq, decide_eq_false_iff_not] at hc) | (with_reducible first | refine AW.seq ?_ | refine AW.skip ?_ | refine AW.ret ?_ | refine And.intro ?_ ?_) | (with_reducible intro hg; first | simp only [eq_false hg, decide_true, decide_false, and_true, true_and, and_false, false_and, not_true_eq_false, not_false_eq_true] | simp only [eq_true hg, decide_true, decide_false, and_true, true_and, and_false, false_and, not_true_eq_false, not_false_eq_true]) | (with_reducible refine retQ_drop ?_; simp only [vRes, packRes, vLoad, vPart, lk, cond, Nat.reduceBEq, get_loc, getD_zero, getD_succ, true_and, List.length_cons, List.length_nil, Nat.reduceAdd, Nat.reduceLT, Nat.reduceLeDiff, List.take_succ_cons, List.take_zero, List.drop_succ_cons, List.drop_zero, vvar_3, vzero_3, vknd_3, vsn_3, vsl_28, vkn_28, vvar_28, vzero_28, vvar_87, vzero_87, vvar_91, vzero_91, vknd_91, vsn_91]) )
    exact ⟨_, _, FinOk.drop hB (.tup (fun i hi => by simp at hi)), rfl, rfl⟩
end Go.Proofs.Ytfkohliggbajkaa
end
section
set_option linter.unusedSimpArgs false
set_option linter.unusedVariables false
namespace Go.Eng
variable {P : Program} {E : Env}
theorem vcL_ok2 (hE : EnvOk P E) (ops tail : List Oper) : ∀ (rest : List Oper) {n : Nat} {c : Ctx} {st : St} {a : Act} {w : World} (_ : RelSt n c st a w) {K : St → Prop} (_ : vcL P E ops rest st K)
    {Q : Exit → Act → World → Prop} (_ : ∀ c' st' a' w', Ext c c' → RelSt n c' st' a' w' → K st' → wpList P ops.toArray Q tail a' w'), wpList P ops.toArray Q (rest ++ tail) a w
  | [], n, c, st, a, w, hst, K, hk, Q, hQ => hQ c st a w (.refl c) hst hk
  | o :: rest, n, c, st, a, w, hst, K, hk, Q, hQ => by
    have run : (dstOk st.N o.dst ∧ vcOp P E o.op st (fun r b l => vcL P E ops rest (({ st with base := b, loc := l } : St).put o.dst r) K)) → o.wp P a w (wpList P ops.toArray Q (rest ++ tail)) Q := by
      rintro ⟨hd, hop⟩
      refine vcOp_ok hE hst hop fun c' v w' r b l he hr hh hb hkk => ?_
      exact vcL_ok2 hE ops tail rest (hst.put he o.dst (dstOk_lt hd) hr hb hh) hkk (fun c2 st2 a2 w2 he2 => hQ c2 st2 a2 w2 (he.trans he2))
    have skip : (dstOk st.N o.dst ∧ vcL P E ops rest (st.put o.dst (.v undef)) K) → wpList P ops.toArray Q (rest ++ tail) (a.put o.dst undef) w := by
      rintro ⟨hd, hop⟩
      exact vcL_ok2 hE ops tail rest (hst.put (.refl c) o.dst (dstOk_lt hd) (.v _) hst.hn hst.heap) hop hQ
    unfold vcL vGuard at hk
    show wpList P ops.toArray Q (o :: (rest ++ tail)) a w
    unfold wpList
    split at hk
    · rename_i hg
      rw [if_pos (by simp [Region.wanted, hg])]
      exact .inl (run hk)
    · rename_i j want hg
      split at hk
      · exact hk.elim
      · rename_i t ht
        obtain ⟨hlt, hk⟩ := hk
        have hy := yielded_of hst ht hlt
        have hv := hst.slots t
        split at hk
        · rename_i b hb
          rw [hb] at hv
          have hv' := hv.v_inv
          rw [hv'] at hy
          by_cases hbw : b = want
          · rw [if_pos (by simp [Region.wanted, hg, hy, hbw])]
            exact .inl (run (hk.1 hbw))
          · rw [if_neg (by simp [Region.wanted, hg, hy, hbw])]
            exact skip (hk.2 hbw)
        · rename_i vs hb
          rw [hb] at hv
          have hv' := hv.v_inv
          rw [hv'] at hy
          rw [if_neg (by simp [Region.wanted, hg, hy])]
          exact skip hk
        · exact hk.elim
/-- What a region's last operation does, said of the model itself. -/
def LastOk (P : Program) (o : Oper) (n : Nat) (Q : Exit → St → Prop) (st : St) : Prop :=
  ∀ c a w, RelN n c st a w → ∃ v w' c' st', (execOp a.eval o).run P w = .ok (.value v) w' ∧ ExtB n c c' ∧ RelN n c' st' (a.put o.dst v) w' ∧ Q .normal st'
theorem AW.regionLast (hE : EnvOk P E) {n : Nat} {Q : Exit → St → Prop} {st : St} {id : Nat} {l : List Oper} {o : Oper} (hg : o.guard = none)
    (h : ∀ K : St → Prop, (∀ st', LastOk P o n Q st' → K st') → vcL P E (l ++ [o]) l st K) : AW P n (.region id (l ++ [o]).toArray false) Q st := by
  intro c a w hst
  refine wp_region_lit (vcL_ok2 hE (l ++ [o]) [o] l hst.rel (h _ (fun _ h => h)) ?_)
  intro c' st' a' w' he hr hk
  obtain ⟨v, w2, c2, st2, h1, h2, h3, h4⟩ := hk c' a' w' (.of hst.le hr)
  unfold wpList
  rw [if_pos (by simp [Region.wanted, hg])]
  refine .inl (wp_value h1 ?_)
  unfold wpList
  exact ⟨c2, st2, (he.toB n).trans h2, h3, h4⟩
end Go.Eng
end
section
set_option linter.unusedSimpArgs false
set_option linter.unusedVariables false
namespace Go.Eng
variable {P : Program} {E : Env}
/-- The tail of a row of points, cleared. -/
def clr (xs : List (Int × Int)) (k : Nat) : List (Int × Int) := xs.take k ++ List.replicate (xs.length - k) (0, 0)
theorem clr_len {xs : List (Int × Int)} {k : Nat} (h : k ≤ xs.length) : (clr xs k).length = xs.length := by simp [clr]; omega
theorem setRow_other (w : World) (g b : Nat) (cs : Array Value) (h : b ≠ g) : (w.setRow g cs).heap[b]? = w.heap[b]? := by
  unfold World.setRow
  simp only
  rw [Array.getElem?_modify, if_neg (Ne.symm h)]
theorem zeroCells_pt (m : Nat) : (Builtin.zeroCells #[Value.int IntKind.i64 0, Value.int IntKind.i64 0] m).toList = List.replicate (m * 2) (.int .i64 0) := by
  apply List.ext_getElem
  · simp [Builtin.zeroCells]
  · intro i h1 h2
    simp only [Builtin.zeroCells, Array.toList_map, List.getElem_map, List.getElem_replicate]
    rcases Nat.mod_two_eq_zero_or_one i with h | h <;> simp [h]
theorem clear_last {n : Nat} {Q : Exit → St → Prop} {st : St} {o : Oper} {T et : TypeId} {t k off m : Nat} {xs : List (Int × Int)}
    (ho : o.op = .call { callee := .builtin .clear, args := #[.tmp t], argTypes := #[T] }) (hd : o.dst = none)
    (ht : lk st.slots t = .sl 2 k off m) (hbox : st.base[k]? = some (.row false .pt xs)) (hm : off + m = xs.length) (hu : P.underlying T = some (.slice et)) (hz : ∀ w, (zeroValue et).run P w = .ok (.agg #[.int .i64 0, .int .i64 0]) w)
    (hq : Q .normal { st with base := st.base.set k (.row false .pt (clr xs off)) }) : LastOk P o n Q st := by
  intro c a w hr
  have hkb : k < st.base.length := (List.getElem?_eq_some_iff.1 hbox).1
  have hget : (st.base ++ st.loc)[k]? = some (.row false .pt xs) := by rw [List.getElem?_append_left hkb]; exact hbox
  obtain ⟨loc, hloc, cells, T', g1, g2, g3, g4, g5⟩ := hr.rel.heap.box _ _ hget rfl
  have hv := hr.rel.slots t
  rw [ht] at hv
  generalize hu' : a.tmps.getD t undef = u at hv
  cases hv with
  | @sl _ _ _ _ b o2 l2 hl2 hn ha =>
    rw [hloc] at hl2; cases hl2
    have hex : ∀ v w', (Builtin.clear_ #[T] o.type #[.slice (some ⟨b, o2, none⟩) m (loc.cap - off)]).run P w = .ok v w' → (execOp a.eval o).run P w = .ok (.value v) w' := fun v w' h => by
      have e1 : a.eval (.tmp t) = .slice (some ⟨b, o2, none⟩) m (loc.cap - off) := hu'
      simp [execOp, ho, resolve, invoke, builtin, e1, h]
    rcases Nat.eq_zero_or_pos m with rfl | hmp
    · have hoff : clr xs off = xs := by unfold clr; rw [List.take_of_length_le (by omega), show xs.length - off = 0 by omega]; simp
      refine ⟨_, _, c, _, hex (.tuple #[]) w (by simp [Builtin.clear_, run_underlying hu]), .refl n c, ?_, hq⟩
      have hset : st.base.set k (.row false .pt (clr xs off)) = st.base := by rw [hoff]; exact set_same hbox
      rw [hset, hd]
      exact hr
    · obtain ⟨rfl, rfl⟩ := ha (by omega)
      have hcap : loc.off + loc.cap * 2 ≤ cells.size := g3
      have hcp : xs.length ≤ loc.cap := g4
      have hzc : (Builtin.zeroCells (Value.agg #[Value.int IntKind.i64 0, Value.int IntKind.i64 0]).cells m).toList = List.replicate (m * 2) (.int .i64 0) := zeroCells_pt m
      have hst := run_storeCells_at P loc.blk (loc.off + off * 2) T' (List.replicate (m * 2) (.int .i64 0)) 0 cells w g1 (by rw [List.length_replicate]; omega) (by intro v hv; rw [List.eq_of_mem_replicate hv]; rfl)
      simp only [Nat.add_zero] at hst
      have hfit : loc.off + off * 2 + (List.replicate (m * 2) (Value.int .i64 0)).length ≤ cells.size := by rw [List.length_replicate]; omega
      obtain ⟨q, rfl⟩ : ∃ q, m = q + 1 := ⟨m - 1, by omega⟩
      refine ⟨_, _, c, _, hex (.tuple #[]) _ (by simp only [Builtin.clear_]; simp [run_underlying hu, hz, hzc, hst]; rfl), .refl n c, ?_, hq⟩
      have hh := hr.rel.heap.rewriteRow (ys := clr xs off) hget hloc g1 (setRow_heap w _ _ (cells.toList.take (loc.off + off * 2) ++ List.replicate ((q + 1) * 2) (Value.int .i64 0) ++ cells.toList.drop (loc.off + off * 2 + (List.replicate ((q + 1) * 2) (Value.int .i64 0)).length)).toArray _ _ g1)
        (by simp only [List.size_toArray, List.length_append, List.length_take, List.length_drop, Array.length_toList]; omega)
        (fun b hb _ => setRow_other w _ b _ hb) rfl rfl rfl (clr_len (by omega)) (fun i hi => by
          rw [clr_len (by omega)] at hi
          rw [stored_get _ _ _ hfit, stored_get _ _ _ hfit, List.length_replicate]
          by_cases hio : i < off
          · have e : (clr xs off).getD i (0, 0) = xs.getD i (0, 0) := by
              unfold clr; simp only [List.getD]; rw [List.getElem?_append_left (by simp; omega), List.getElem?_take, if_pos hio]
            obtain ⟨u, hu0, hr0⟩ := g5 i 0 hi (by decide)
            obtain ⟨u', hu1, hr1⟩ := g5 i 1 hi (by decide)
            have h0 := hr0.v_inv
            have h1 := hr1.v_inv
            subst h0; subst h1
            rw [if_neg (by omega), if_neg (by omega), e]
            exact ⟨hu0, hu1⟩
          · have e : (clr xs off).getD i (0, 0) = (0, 0) := by
              unfold clr; simp only [List.getD]; rw [List.getElem?_append_right (by simp; omega), List.getElem?_replicate]
              split <;> rfl
            rw [if_pos (by omega), if_pos (by omega), e]
            constructor
            · simp only [List.getD, List.getElem?_replicate]; rw [if_pos (by omega)]; rfl
            · simp only [List.getD, List.getElem?_replicate]; rw [if_pos (by omega)]; rfl)
      rw [hd]
      refine ⟨by have := hr.le; simpa using this, hr.rel.defers, hr.rel.size, hr.rel.slots, ?_, rfl⟩
      show RelH c (st.base.set k (.row false .pt (clr xs off)) ++ st.loc) _
      rw [show st.base.set k (.row false .pt (clr xs off)) ++ st.loc = (st.base ++ st.loc).set k (.row false .pt (clr xs off)) by rw [List.set_append, if_pos hkb]]
      rw [List.length_replicate, List.append_assoc] at hh
      exact hh
end Go.Eng
end
section
set_option linter.unusedSimpArgs false
set_option linter.unusedVariables false
set_option maxHeartbeats 1000000
namespace Go.Proofs.Ytfkohliggbajkaa
open Go.Eng
/-- The first i elements, of equal neighbours the first alone. -/
def compTo (zs : List (Int × Int)) : Nat → List (Int × Int)
  | 0 => []
  | i + 1 => if 0 < i ∧ zs.getD i (0, 0) = zs.getD (i - 1) (0, 0) then compTo zs i else compTo zs i ++ [zs.getD i (0, 0)]
theorem compTo_len (zs : List (Int × Int)) : ∀ i, (compTo zs i).length ≤ i
  | 0 => Nat.le_refl _
  | i + 1 => by
    unfold compTo
    have := compTo_len zs i
    split
    · omega
    · simp; omega
theorem take_snoc {zs : List (Int × Int)} {i : Nat} (h : i < zs.length) : zs.take (i + 1) = zs.take i ++ [zs.getD i (0, 0)] := by
  rw [List.take_add_one, List.getElem?_eq_getElem h]; simp [List.getD, h]
theorem set_take {cur : List (Int × Int)} {k : Nat} {v : Int × Int} (h : k < cur.length) : (cur.set k v).take (k + 1) = cur.take k ++ [v] := by
  rw [take_snoc (by simpa using h), List.take_set_of_le (Nat.le_refl k)]
  simp [List.getD, h]
theorem get_set_ne {cur : List (Int × Int)} {k i : Nat} {v : Int × Int} (h : k ≠ i) : (cur.set k v).getD i (0, 0) = cur.getD i (0, 0) := by
  simp only [List.getD]; rw [List.getElem?_set_ne h]
theorem AW.regionLast4 {n : Nat} {Q : Exit → St → Prop} {st : St} {id : Nat} {o1 o2 o3 o : Oper} (hg : o.guard = none)
    (h : ∀ K : St → Prop, (∀ st', LastOk Try.prog o n Q st' → K st') → vcL Try.prog env [o1, o2, o3, o] [o1, o2, o3] st K) : AW Try.prog n (.region id [o1, o2, o3, o].toArray false) Q st :=
  AW.regionLast (l := [o1, o2, o3]) envOk hg h
theorem compTo_small {zs : List (Int × Int)} (h : zs.length < 2) : compTo zs zs.length = zs := by
  match zs, h with
  | [], _ => rfl
  | [a], _ => rfl
theorem set_base {H l : List ABox} {j : Nat} {X Y : ABox} : (H ++ l.set j X).set (H.length + j) Y = H ++ l.set j Y := by
  rw [List.set_append, if_neg (by omega), Nat.add_sub_cancel_left, List.set_set]
theorem compTo_eq {zs : List (Int × Int)} {i : Nat} (h : 0 < i ∧ zs.getD i (0, 0) = zs.getD (i - 1) (0, 0)) : compTo zs (i + 1) = compTo zs i := by
  show (if _ then _ else _) = _
  rw [if_pos h]
theorem compTo_ne {zs : List (Int × Int)} {i : Nat} (h : ¬ zs.getD i (0, 0) = zs.getD (i - 1) (0, 0)) : compTo zs (i + 1) = compTo zs i ++ [zs.getD i (0, 0)] := by
  show (if _ then _ else _) = _
  rw [if_neg (fun h' => h h'.2)]
theorem comp120_ac (zs : List (Int × Int)) (hx : zs.length ≤ 1000000) (l : List ABox) (j : Nat) (hj : l[j]? = some (.row false .pt zs)) (H : List ABox) :
    AC Try.prog 64 [.sl 2 (H.length + j) 0 (zs.length)] (H ++ l) (fun r H' => ∃ ys : List (Int × Int), (ys.length = zs.length ∧ ys.take (compTo zs zs.length).length = compTo zs zs.length) ∧ r = .sl 2 (H.length + j) 0 ((compTo zs zs.length).length) ∧ H' = H ++ l.set j (.row false .pt ys)) := by
  have hjl : j < l.length := (List.getElem?_eq_some_iff.1 hj).1
  have hl : l.set j (.row false .pt zs) = l := set_same hj
  refine AC.enter envOk Try.func64 rfl (by decide) Try.ntmps64 Try.results64 (by simp) fun hB => ?_
  repeat' (first | (with_reducible first | refine AW.sreg envOk fun K hK => ?_ | refine AW.region envOk fun K hK => ?_) | (with_reducible refine AW.d0reg envOk mixed ?_ ?_ fun K hK => ?_; (first | rfl | exact base_len | exact base_len0); kernel_rfl) | (with_reducible refine AW.d0 envOk mixed ?_ ?_ fun K hK => ?_; (first | rfl | exact base_len | exact base_len0); kernel_rfl) | (with_reducible first | refine vcD_nil ?_ | refine vcL_nil ?_) | (with_reducible (first | refine vcD_cons fun K' hK' => ?_ | refine vcL_cons fun K' hK' => ?_); simp only [isC, Bool.false_or, Bool.or_true, ↓reduceDIte, List.take_length, Nat.le_refl, List.drop_zero, vGuard, undef, Bool.not_eq_eq_eq_not, dstOk, vcOp, vcF, isPure, putS, vcCall, St.ev, St.put, lk, AVal.ofVal, initS, Nat.reduceLT, true_and, and_true, vBin, vPart, vLoad, vStore, vIdxA, vLen, vSlice, bnd, AVal.flat, AVal.cell, cellsOk, setRange, ETy.enc, ETy.dec, ETy.sz, ETy.d, cond, Nat.reduceBEq, Nat.reduceAdd, Int.toNat_natCast, List.length_set, List.length_append, List.length_replicate, List.length_take, Nat.reduceSub, Nat.reduceEqDiff, get_loc, setBox_loc, next_eq, List.length_cons, List.length_nil, List.map_cons, List.map_nil, List.append_nil, List.nil_append, List.cons_append, List.set_cons_zero, List.set_cons_succ, getD_zero, getD_succ, List.getElem?_cons_succ, List.getElem?_cons_zero, List.take_succ_cons, List.take_zero, List.drop_succ_cons, List.all_cons, List.all_nil, Bool.and_true, Bool.true_and, Option.bind_some, Option.map_some, Option.map_none, decide_eq_true_eq, decide_eq_false_iff_not, ne_eq, Bool.not_eq_true, Bool.not_eq_false, Decidable.not_not, not_true_eq_false, not_false_eq_true, forall_const, false_implies, Bool.true_eq_false, Bool.false_eq_true, reduceCtorEq, decide_true, decide_false, Bool.not_true, Bool.not_false, if_true, if_false, Nat.zero_add, Nat.lt_irrefl, Value.oneCell', gt_iff_lt, Nat.reduceLeDiff, Nat.lt_add_one, vvar_3, vzero_3, vknd_3, vsn_3, vvar_4, vzero_4, vknd_4, vsn_4, vsl_28, vkn_28, vvar_28, vzero_28, vvar_33, vzero_33, vbld_33, vpts_33]; try simp (disch := omega) only [wrap64]) | (with_reducible refine hK' _ ?_; clear hK' K') | (with_reducible refine hK _ ?_; clear hK K) | (with_reducible first | refine And.intro (And.intro rfl rfl) ?_ | refine And.intro (by omega) ?_) | (with_reducible refine And.intro (fun hg => ?_) (fun hg => ?_) <;> first | simp only [eq_false hg, decide_true, decide_false, and_true, true_and, and_false, false_and, not_true_eq_false, not_false_eq_true] | simp only [eq_true hg, decide_true, decide_false, and_true, true_and, and_false, false_and, not_true_eq_false, not_false_eq_true] | simp only [hg, decide_true, decide_false, and_true, true_and, and_false, false_and, not_true_eq_false, not_false_eq_true]) | (with_reducible first | refine And.intro rfl (And.intro rfl rfl) | refine thenQ_n ?_ | refine thenQ_exit ?_ | refine thenQ_ret ?_ | refine midQ_ret ?_ | refine midQ_exit ?_ | refine blockQ_same ?_ | refine blockQ_ne (by decide) ?_ | refine blockQ_ret ?_ | refine blockQ_n ?_ | refine AW.exit ?_ | refine AW.block ?_ | refine AW.cond_t rfl ?_ | refine AW.cond_f rfl ?_ | refine AW.cond_dec rfl (fun hc => ?_) (fun hc => ?_)) | (with_reducible refine AW.cond rfl (fun hc => ?_) (fun hc => ?_) <;> try simp only [Bool.not_eq_eq_eq_not, Bool.not_true, Bool.not_false, decide_eq_true_eq, decide_eq_false_iff_not] at hc) | (with_reducible first | refine AW.seq ?_ | refine AW.skip ?_ | refine AW.ret ?_ | refine And.intro ?_ ?_) | (with_reducible intro hg; first | simp only [eq_false hg, decide_true, decide_false, and_true, true_and, and_false, false_and, not_true_eq_false, not_false_eq_true] | simp only [eq_true hg, decide_true, decide_false, and_true, true_and, and_false, false_and, not_true_eq_false, not_false_eq_true]) | (with_reducible refine retQ_drop ?_; simp only [vRes, packRes, vLoad, vPart, lk, cond, Nat.reduceBEq, get_loc, getD_zero, getD_succ, true_and, List.length_cons, List.length_nil, Nat.reduceAdd, Nat.reduceLT, Nat.reduceLeDiff, List.take_succ_cons, List.take_zero, List.drop_succ_cons, List.drop_zero, vvar_3, vzero_3, vknd_3, vsn_3, vvar_4, vzero_4, vknd_4, vsn_4, vsl_28, vkn_28, vvar_28, vzero_28, vvar_33, vzero_33, vbld_33, vpts_33]) )
  · have e := compTo_small (zs := zs) (by omega)
    exact ⟨_, _, FinOk.base, zs, ⟨rfl, by rw [e, List.take_length]⟩, by rw [e], by rw [hl]⟩
  refine AW.loop (fun k : Nat => (⟨61, [(0, .sl 2 (H.length + j) 0 (zs.length)), (3, .v (.int .i64 ((k : Int))))], H ++ l.set j (.row false .pt zs), []⟩ : St)) (fun k => (1 ≤ k ∧ k ≤ zs.length) ∧ compTo zs k = zs.take k) (fun k => zs.length - k) 1 ?_ ?_ ?_
  · refine ⟨⟨by omega, by omega⟩, ?_⟩
    rw [take_snoc (by omega)]; rfl
  · rw [hl]; exact (Weak.slots (by repeat' first | exact trivial | exact ⟨rfl, trivial⟩ | refine ⟨rfl, ?_⟩))
  intro k ⟨hk, hK⟩
  have hn2 : ((k : Int) - 1).toNat = k - 1 := by omega
  repeat' (first | (with_reducible first | refine AW.sreg envOk fun K hK => ?_ | refine AW.region envOk fun K hK => ?_) | (with_reducible refine AW.d0reg envOk mixed ?_ ?_ fun K hK => ?_; (first | rfl | exact base_len | exact base_len0); kernel_rfl) | (with_reducible refine AW.d0 envOk mixed ?_ ?_ fun K hK => ?_; (first | rfl | exact base_len | exact base_len0); kernel_rfl) | (with_reducible first | refine vcD_nil ?_ | refine vcL_nil ?_) | (with_reducible (first | refine vcD_cons fun K' hK' => ?_ | refine vcL_cons fun K' hK' => ?_); simp only [isC, Bool.false_or, Bool.or_true, ↓reduceDIte, List.take_length, Nat.le_refl, List.drop_zero, vGuard, undef, Bool.not_eq_eq_eq_not, dstOk, vcOp, vcF, isPure, putS, vcCall, St.ev, St.put, lk, AVal.ofVal, initS, Nat.reduceLT, true_and, and_true, vBin, vPart, vLoad, vStore, vIdxA, vLen, vSlice, bnd, AVal.flat, AVal.cell, cellsOk, setRange, ETy.enc, ETy.dec, ETy.sz, ETy.d, cond, Nat.reduceBEq, Nat.reduceAdd, Int.toNat_natCast, List.length_set, List.length_append, List.length_replicate, List.length_take, Nat.reduceSub, Nat.reduceEqDiff, get_bl, setBox_bl, next_bl, List.length_cons, List.length_nil, List.map_cons, List.map_nil, List.append_nil, List.nil_append, List.cons_append, List.set_cons_zero, List.set_cons_succ, getD_zero, getD_succ, List.getElem?_cons_succ, List.getElem?_cons_zero, List.take_succ_cons, List.take_zero, List.drop_succ_cons, List.all_cons, List.all_nil, Bool.and_true, Bool.true_and, Option.bind_some, Option.map_some, Option.map_none, decide_eq_true_eq, decide_eq_false_iff_not, ne_eq, Bool.not_eq_true, Bool.not_eq_false, Decidable.not_not, not_true_eq_false, not_false_eq_true, forall_const, false_implies, Bool.true_eq_false, Bool.false_eq_true, reduceCtorEq, decide_true, decide_false, Bool.not_true, Bool.not_false, if_true, if_false, Nat.zero_add, Nat.lt_irrefl, Value.oneCell', gt_iff_lt, Nat.reduceLeDiff, Nat.lt_add_one, vvar_3, vzero_3, vknd_3, vsn_3, vvar_4, vzero_4, vknd_4, vsn_4, vsl_28, vkn_28, vvar_28, vzero_28, vvar_33, vzero_33, vbld_33, vpts_33, get_set hjl, get_set0 hjl, set_again, hjl, Nat.zero_add, hn2]; try simp (disch := omega) only [wrap64]) | (with_reducible refine hK' _ ?_; clear hK' K') | (with_reducible refine hK _ ?_; clear hK K) | (with_reducible first | refine And.intro (And.intro rfl rfl) ?_ | refine And.intro (by omega) ?_) | (with_reducible refine And.intro (fun hg => ?_) (fun hg => ?_) <;> first | simp only [eq_false hg, decide_true, decide_false, and_true, true_and, and_false, false_and, not_true_eq_false, not_false_eq_true] | simp only [eq_true hg, decide_true, decide_false, and_true, true_and, and_false, false_and, not_true_eq_false, not_false_eq_true] | simp only [hg, decide_true, decide_false, and_true, true_and, and_false, false_and, not_true_eq_false, not_false_eq_true]) | (with_reducible first | refine And.intro rfl (And.intro rfl rfl) | refine thenQ_n ?_ | refine thenQ_exit ?_ | refine thenQ_ret ?_ | refine midQ_ret ?_ | refine midQ_exit ?_ | refine blockQ_same ?_ | refine blockQ_ne (by decide) ?_ | refine blockQ_ret ?_ | refine blockQ_n ?_ | refine AW.exit ?_ | refine AW.block ?_ | refine AW.cond_t rfl ?_ | refine AW.cond_f rfl ?_ | refine AW.cond_dec rfl (fun hc => ?_) (fun hc => ?_)) | (with_reducible refine AW.cond rfl (fun hc => ?_) (fun hc => ?_) <;> try simp only [Bool.not_eq_eq_eq_not, Bool.not_true, Bool.not_false, decide_eq_true_eq, decide_eq_false_iff_not] at hc) | (with_reducible first | refine AW.seq ?_ | refine AW.skip ?_ | refine AW.ret ?_ | refine And.intro ?_ ?_) | (with_reducible intro hg; first | simp only [eq_false hg, decide_true, decide_false, and_true, true_and, and_false, false_and, not_true_eq_false, not_false_eq_true] | simp only [eq_true hg, decide_true, decide_false, and_true, true_and, and_false, false_and, not_true_eq_false, not_false_eq_true]) | (with_reducible refine retQ_drop ?_; simp only [vRes, packRes, vLoad, vPart, lk, cond, Nat.reduceBEq, get_bl, getD_zero, getD_succ, true_and, List.length_cons, List.length_nil, Nat.reduceAdd, Nat.reduceLT, Nat.reduceLeDiff, List.take_succ_cons, List.take_zero, List.drop_succ_cons, List.drop_zero, vvar_3, vzero_3, vknd_3, vsn_3, vvar_4, vzero_4, vknd_4, vsn_4, vsl_28, vkn_28, vvar_28, vzero_28, vvar_33, vzero_33, vbld_33, vpts_33]) )
  · have heq : zs.getD k (0, 0) = zs.getD (k - 1) (0, 0) := by
      have h := ‹(zs.getD k (0, 0)).1 = _ ∧ _›
      exact Prod.ext h.1 h.2
    have hkn : k < zs.length := by omega
    refine AW.loop (fun z : Nat × Nat × List (Int × Int) => (⟨61, [(0, .sl 2 (H.length + j) 0 (zs.length)), (3, .v (.int .i64 ((z.2.1 : Int)))), (4, .sl 2 (H.length + j) k (zs.length - k)), (5, .v (.int .i64 ((z.1 : Int))))], H ++ l.set j (.row false .pt z.2.2), []⟩ : St)) (fun z => (1 ≤ z.1 ∧ k + z.1 ≤ zs.length) ∧ (k ≤ z.2.1 ∧ z.2.1 + 1 ≤ k + z.1) ∧ z.2.2.length = zs.length ∧ z.2.2.take z.2.1 = compTo zs (k + z.1) ∧ ∀ i, k + z.1 - 1 ≤ i → z.2.2.getD i (0, 0) = zs.getD i (0, 0)) (fun z => zs.length - (k + z.1)) (1, k, zs) ?_ ?_ ?_
    · exact ⟨⟨by simp only; omega, by simp only; omega⟩, ⟨by simp only; omega, by simp only; omega⟩, rfl, by simp only; rw [compTo_eq ⟨by omega, heq⟩, hK], fun i _ => rfl⟩
    · exact (Weak.slots (by repeat' first | exact trivial | exact ⟨rfl, trivial⟩ | refine ⟨rfl, ?_⟩))
    intro ⟨p, q, cur⟩ ⟨hp, hq, hlen, htk, hget⟩
    simp only at hp hq hlen htk hget ⊢
    have hn3 : ((p : Int) - 1).toNat = p - 1 := by omega
    have e1 := hget (k + p) (by omega)
    have e2 := hget (k + (p - 1)) (by omega)
    have e3 : k + (p - 1) = k + p - 1 := by omega
    repeat' (first | (with_reducible first | refine AW.seq (AW.regionLast4 (id := 14) rfl fun K hK => ?_) | refine AW.sreg envOk fun K hK => ?_ | refine AW.region envOk fun K hK => ?_) | (with_reducible refine AW.d0reg envOk mixed ?_ ?_ fun K hK => ?_; (first | rfl | exact base_len | exact base_len0); kernel_rfl) | (with_reducible refine AW.d0 envOk mixed ?_ ?_ fun K hK => ?_; (first | rfl | exact base_len | exact base_len0); kernel_rfl) | (with_reducible first | refine vcD_nil ?_ | refine vcL_nil ?_) | (with_reducible (first | refine vcD_cons fun K' hK' => ?_ | refine vcL_cons fun K' hK' => ?_); simp only [isC, Bool.false_or, Bool.or_true, ↓reduceDIte, List.take_length, Nat.le_refl, List.drop_zero, vGuard, undef, Bool.not_eq_eq_eq_not, dstOk, vcOp, vcF, isPure, putS, vcCall, St.ev, St.put, lk, AVal.ofVal, initS, Nat.reduceLT, true_and, and_true, vBin, vPart, vLoad, vStore, vIdxA, vLen, vSlice, bnd, AVal.flat, AVal.cell, cellsOk, setRange, ETy.enc, ETy.dec, ETy.sz, ETy.d, cond, Nat.reduceBEq, Nat.reduceAdd, Int.toNat_natCast, List.length_set, List.length_append, List.length_replicate, List.length_take, Nat.reduceSub, Nat.reduceEqDiff, get_bl, setBox_bl, next_bl, List.length_cons, List.length_nil, List.map_cons, List.map_nil, List.append_nil, List.nil_append, List.cons_append, List.set_cons_zero, List.set_cons_succ, getD_zero, getD_succ, List.getElem?_cons_succ, List.getElem?_cons_zero, List.take_succ_cons, List.take_zero, List.drop_succ_cons, List.all_cons, List.all_nil, Bool.and_true, Bool.true_and, Option.bind_some, Option.map_some, Option.map_none, decide_eq_true_eq, decide_eq_false_iff_not, ne_eq, Bool.not_eq_true, Bool.not_eq_false, Decidable.not_not, not_true_eq_false, not_false_eq_true, forall_const, false_implies, Bool.true_eq_false, Bool.false_eq_true, reduceCtorEq, decide_true, decide_false, Bool.not_true, Bool.not_false, if_true, if_false, Nat.zero_add, Nat.lt_irrefl, Value.oneCell', gt_iff_lt, Nat.reduceLeDiff, Nat.lt_add_one, vvar_3, vzero_3, vknd_3, vsn_3, vvar_4, vzero_4, vknd_4, vsn_4, vsl_28, vkn_28, vvar_28, vzero_28, vvar_33, vzero_33, vbld_33, vpts_33, get_set hjl, get_set0 hjl, set_again, hjl, Nat.zero_add, hn3, hlen, e1, e2]; try simp (disch := omega) only [wrap64]) | (with_reducible refine hK' _ ?_; clear hK' K') | (with_reducible refine hK _ ?_; clear hK K) | (with_reducible first | refine And.intro (And.intro rfl rfl) ?_ | refine And.intro (by omega) ?_) | (with_reducible refine And.intro (fun hg => ?_) (fun hg => ?_) <;> first | simp only [eq_false hg, decide_true, decide_false, and_true, true_and, and_false, false_and, not_true_eq_false, not_false_eq_true] | simp only [eq_true hg, decide_true, decide_false, and_true, true_and, and_false, false_and, not_true_eq_false, not_false_eq_true] | simp only [hg, decide_true, decide_false, and_true, true_and, and_false, false_and, not_true_eq_false, not_false_eq_true]) | (with_reducible first | refine And.intro rfl (And.intro rfl rfl) | refine thenQ_n ?_ | refine thenQ_exit ?_ | refine thenQ_ret ?_ | refine midQ_ret ?_ | refine midQ_exit ?_ | refine blockQ_same ?_ | refine blockQ_ne (by decide) ?_ | refine blockQ_ret ?_ | refine blockQ_n ?_ | refine AW.exit ?_ | refine AW.block ?_ | refine AW.cond_t rfl ?_ | refine AW.cond_f rfl ?_ | refine AW.cond_dec rfl (fun hc => ?_) (fun hc => ?_)) | (with_reducible refine AW.cond rfl (fun hc => ?_) (fun hc => ?_) <;> try simp only [Bool.not_eq_eq_eq_not, Bool.not_true, Bool.not_false, decide_eq_true_eq, decide_eq_false_iff_not] at hc) | (with_reducible first | refine AW.seq ?_ | refine AW.skip ?_ | refine AW.ret ?_ | refine And.intro ?_ ?_) | (with_reducible intro hg; first | simp only [eq_false hg, decide_true, decide_false, and_true, true_and, and_false, false_and, not_true_eq_false, not_false_eq_true] | simp only [eq_true hg, decide_true, decide_false, and_true, true_and, and_false, false_and, not_true_eq_false, not_false_eq_true]) | (with_reducible refine retQ_drop ?_; simp only [vRes, packRes, vLoad, vPart, lk, cond, Nat.reduceBEq, get_bl, getD_zero, getD_succ, true_and, List.length_cons, List.length_nil, Nat.reduceAdd, Nat.reduceLT, Nat.reduceLeDiff, List.take_succ_cons, List.take_zero, List.drop_succ_cons, List.drop_zero, vvar_3, vzero_3, vknd_3, vsn_3, vvar_4, vzero_4, vknd_4, vsn_4, vsl_28, vkn_28, vvar_28, vzero_28, vvar_33, vzero_33, vbld_33, vpts_33]) )
    · have hne : ¬ zs.getD (k + p) (0, 0) = zs.getD (k + p - 1) (0, 0) := fun h => by
        have h2 := ‹¬ ((zs.getD (k + p) (0, 0)).1 = _ ∧ _)›
        rw [e3] at h2
        exact h2 ⟨by rw [h], by rw [h]⟩
      refine ⟨(p + 1, q + 1, cur.set q (zs.getD (k + p) (0, 0))), ⟨⟨by simp only; omega, by simp only; omega⟩, ⟨by simp only; omega, by simp only; omega⟩, by simpa using hlen, ?_, fun i hi => ?_⟩, by simp only; omega, (Weak.slots (by repeat' first | exact trivial | exact ⟨rfl, trivial⟩ | refine ⟨rfl, ?_⟩))⟩
      · show (cur.set q _).take (q + 1) = compTo zs (k + p + 1)
        rw [set_take (by omega), htk, compTo_ne hne]
      · simp only at hi ⊢
        rw [get_set_ne (by omega)]
        exact hget i (by omega)
    · have heq2 : zs.getD (k + p) (0, 0) = zs.getD (k + p - 1) (0, 0) := by
        have h2 := Decidable.not_not.1 ‹¬ ¬ ((zs.getD (k + p) (0, 0)).1 = _ ∧ _)›
        rw [e3] at h2
        exact Prod.ext h2.1 h2.2
      refine ⟨(p + 1, q, cur), ⟨⟨by simp only; omega, by simp only; omega⟩, ⟨by simp only; omega, by simp only; omega⟩, hlen, ?_, fun i hi => hget i (by simp only at hi; omega)⟩, by simp only; omega, (Weak.slots (by repeat' first | exact trivial | exact ⟨rfl, trivial⟩ | refine ⟨rfl, ?_⟩))⟩
      show cur.take q = compTo zs (k + p + 1)
      rw [htk, compTo_eq ⟨by omega, heq2⟩]
    · have hend : k + p = zs.length := by omega
      rw [hend] at htk
      have hq1 : (compTo zs zs.length).length = q := by rw [← htk, List.length_take]; omega
      refine clear_last (T := 28) (et := 33) (k := H.length + j) (off := q) (m := zs.length - q) (xs := cur) rfl rfl rfl ?_ (by omega) Try.underlying28 (fun w => by kernel_rfl) (thenQ_n ?_)
      · rw [List.getElem?_append_right (by omega), Nat.add_sub_cancel_left, List.getElem?_set_self hjl]
      have hcl := clr_len (xs := cur) (k := q) (by omega)
      simp only [set_base]
      repeat' (first | (with_reducible first | refine AW.sreg envOk fun K hK => ?_ | refine AW.region envOk fun K hK => ?_) | (with_reducible refine AW.d0reg envOk mixed ?_ ?_ fun K hK => ?_; (first | rfl | exact base_len | exact base_len0); kernel_rfl) | (with_reducible refine AW.d0 envOk mixed ?_ ?_ fun K hK => ?_; (first | rfl | exact base_len | exact base_len0); kernel_rfl) | (with_reducible first | refine vcD_nil ?_ | refine vcL_nil ?_) | (with_reducible (first | refine vcD_cons fun K' hK' => ?_ | refine vcL_cons fun K' hK' => ?_); simp only [isC, Bool.false_or, Bool.or_true, ↓reduceDIte, List.take_length, Nat.le_refl, List.drop_zero, vGuard, undef, Bool.not_eq_eq_eq_not, dstOk, vcOp, vcF, isPure, putS, vcCall, St.ev, St.put, lk, AVal.ofVal, initS, Nat.reduceLT, true_and, and_true, vBin, vPart, vLoad, vStore, vIdxA, vLen, vSlice, bnd, AVal.flat, AVal.cell, cellsOk, setRange, ETy.enc, ETy.dec, ETy.sz, ETy.d, cond, Nat.reduceBEq, Nat.reduceAdd, Int.toNat_natCast, List.length_set, List.length_append, List.length_replicate, List.length_take, Nat.reduceSub, Nat.reduceEqDiff, get_bl, setBox_bl, next_bl, List.length_cons, List.length_nil, List.map_cons, List.map_nil, List.append_nil, List.nil_append, List.cons_append, List.set_cons_zero, List.set_cons_succ, getD_zero, getD_succ, List.getElem?_cons_succ, List.getElem?_cons_zero, List.take_succ_cons, List.take_zero, List.drop_succ_cons, List.all_cons, List.all_nil, Bool.and_true, Bool.true_and, Option.bind_some, Option.map_some, Option.map_none, decide_eq_true_eq, decide_eq_false_iff_not, ne_eq, Bool.not_eq_true, Bool.not_eq_false, Decidable.not_not, not_true_eq_false, not_false_eq_true, forall_const, false_implies, Bool.true_eq_false, Bool.false_eq_true, reduceCtorEq, decide_true, decide_false, Bool.not_true, Bool.not_false, if_true, if_false, Nat.zero_add, Nat.lt_irrefl, Value.oneCell', gt_iff_lt, Nat.reduceLeDiff, Nat.lt_add_one, vvar_3, vzero_3, vknd_3, vsn_3, vvar_4, vzero_4, vknd_4, vsn_4, vsl_28, vkn_28, vvar_28, vzero_28, vvar_33, vzero_33, vbld_33, vpts_33, get_set hjl, get_set0 hjl, set_again, hjl, Nat.zero_add, hcl, hlen]; try simp (disch := omega) only [wrap64]) | (with_reducible refine hK' _ ?_; clear hK' K') | (with_reducible refine hK _ ?_; clear hK K) | (with_reducible first | refine And.intro (And.intro rfl rfl) ?_ | refine And.intro (by omega) ?_) | (with_reducible refine And.intro (fun hg => ?_) (fun hg => ?_) <;> first | simp only [eq_false hg, decide_true, decide_false, and_true, true_and, and_false, false_and, not_true_eq_false, not_false_eq_true] | simp only [eq_true hg, decide_true, decide_false, and_true, true_and, and_false, false_and, not_true_eq_false, not_false_eq_true] | simp only [hg, decide_true, decide_false, and_true, true_and, and_false, false_and, not_true_eq_false, not_false_eq_true]) | (with_reducible first | refine And.intro rfl (And.intro rfl rfl) | refine thenQ_n ?_ | refine thenQ_exit ?_ | refine thenQ_ret ?_ | refine midQ_ret ?_ | refine midQ_exit ?_ | refine blockQ_same ?_ | refine blockQ_ne (by decide) ?_ | refine blockQ_ret ?_ | refine blockQ_n ?_ | refine AW.exit ?_ | refine AW.block ?_ | refine AW.cond_t rfl ?_ | refine AW.cond_f rfl ?_ | refine AW.cond_dec rfl (fun hc => ?_) (fun hc => ?_)) | (with_reducible refine AW.cond rfl (fun hc => ?_) (fun hc => ?_) <;> try simp only [Bool.not_eq_eq_eq_not, Bool.not_true, Bool.not_false, decide_eq_true_eq, decide_eq_false_iff_not] at hc) | (with_reducible first | refine AW.seq ?_ | refine AW.skip ?_ | refine AW.ret ?_ | refine And.intro ?_ ?_) | (with_reducible intro hg; first | simp only [eq_false hg, decide_true, decide_false, and_true, true_and, and_false, false_and, not_true_eq_false, not_false_eq_true] | simp only [eq_true hg, decide_true, decide_false, and_true, true_and, and_false, false_and, not_true_eq_false, not_false_eq_true]) | (with_reducible refine retQ_drop ?_; simp only [vRes, packRes, vLoad, vPart, lk, cond, Nat.reduceBEq, get_bl, getD_zero, getD_succ, true_and, List.length_cons, List.length_nil, Nat.reduceAdd, Nat.reduceLT, Nat.reduceLeDiff, List.take_succ_cons, List.take_zero, List.drop_succ_cons, List.drop_zero, vvar_3, vzero_3, vknd_3, vsn_3, vvar_4, vzero_4, vknd_4, vsn_4, vsl_28, vkn_28, vvar_28, vzero_28, vvar_33, vzero_33, vbld_33, vpts_33]) )
      refine ⟨_, _, FinOk.base, clr cur q, ⟨by rw [hcl, hlen], ?_⟩, ?_, rfl⟩
      · rw [hq1, ← htk]
        unfold clr
        rw [List.take_append_of_le_length (by rw [List.length_take]; omega), List.take_take, Nat.min_self]
      · rw [hq1]; simp
  · have hne : ¬ zs.getD k (0, 0) = zs.getD (k - 1) (0, 0) := fun h => by
      have h2 := ‹¬ ((zs.getD k (0, 0)).1 = _ ∧ _)›
      exact h2 ⟨by rw [h], by rw [h]⟩
    refine ⟨k + 1, ⟨⟨by omega, by omega⟩, by rw [compTo_ne hne, hK, take_snoc (by omega)]⟩, by omega, (Weak.slots (by repeat' first | exact trivial | exact ⟨rfl, trivial⟩ | refine ⟨rfl, ?_⟩))⟩
  · obtain rfl : k = zs.length := by omega
    refine ⟨_, _, FinOk.base, zs, ⟨rfl, ?_⟩, ?_, rfl⟩
    · rw [hK, List.take_length, List.take_length]
    · rw [hK, List.take_length]
end Go.Proofs.Ytfkohliggbajkaa
end
section
set_option linter.unusedSimpArgs false
set_option linter.unusedVariables false
set_option maxHeartbeats 1000000
namespace Go.Proofs.Ytfkohliggbajkaa
open Go.Eng
/-- Ascending, each once. -/
def Asc (ys : List (Int × Int)) : Prop := ys.Pairwise ltP
theorem ltP_tri (a b : Int × Int) : ltP a b ∨ a = b ∨ ltP b a := by
  unfold ltP
  by_cases h1 : a.1 < b.1
  · exact .inl (.inl h1)
  · by_cases h2 : b.1 < a.1
    · exact .inr (.inr (.inl h2))
    · by_cases h3 : a.2 < b.2
      · exact .inl (.inr ⟨by omega, h3⟩)
      · by_cases h4 : b.2 < a.2
        · exact .inr (.inr (.inr ⟨by omega, h4⟩))
        · exact .inr (.inl (Prod.ext (by omega) (by omega)))
theorem ltP_trans {a b c : Int × Int} (h : ltP a b) (k : ltP b c) : ltP a c := by unfold ltP at *; omega
theorem ltP_irr (a : Int × Int) : ¬ ltP a a := by unfold ltP; omega
theorem asc_unique : ∀ {xs ys : List (Int × Int)}, Asc xs → Asc ys → (∀ p, p ∈ xs ↔ p ∈ ys) → xs = ys
  | [], [], _, _, _ => rfl
  | [], y :: ys, _, _, h => absurd ((h y).2 (by simp)) (by simp)
  | x :: xs, [], _, _, h => absurd ((h x).1 (by simp)) (by simp)
  | x :: xs, y :: ys, hx, hy, h => by
    have hx' := List.pairwise_cons.1 hx
    have hy' := List.pairwise_cons.1 hy
    have e : x = y := by
      rcases ltP_tri x y with h1 | h1 | h1
      · have := (h x).1 (by simp)
        rcases List.mem_cons.1 this with h2 | h2
        · exact h2
        · exact absurd (ltP_trans h1 (hy'.1 x h2)) (ltP_irr x)
      · exact h1
      · have := (h y).2 (by simp)
        rcases List.mem_cons.1 this with h2 | h2
        · exact h2.symm
        · exact absurd (ltP_trans h1 (hx'.1 y h2)) (ltP_irr y)
    subst e
    have : xs = ys := asc_unique hx'.2 hy'.2 (fun p => by
      constructor
      · intro hp
        rcases List.mem_cons.1 ((h p).1 (by simp [hp])) with h2 | h2
        · subst h2; exact absurd (hx'.1 p hp) (ltP_irr p)
        · exact h2
      · intro hp
        rcases List.mem_cons.1 ((h p).2 (by simp [hp])) with h2 | h2
        · subst h2; exact absurd (hy'.1 p hp) (ltP_irr p)
        · exact h2)
    rw [this]
theorem compTo_mem (zs : List (Int × Int)) : ∀ i, i ≤ zs.length → ∀ p, p ∈ compTo zs i ↔ p ∈ zs.take i
  | 0, _, p => by simp [compTo]
  | i + 1, h, p => by
    rw [take_snoc (by omega)]
    have ih := compTo_mem zs i (by omega) p
    by_cases e : 0 < i ∧ zs.getD i (0, 0) = zs.getD (i - 1) (0, 0)
    · rw [compTo_eq e, ih]
      simp only [List.mem_append, List.mem_singleton]
      refine ⟨.inl, fun h' => ?_⟩
      rcases h' with h' | h'
      · exact h'
      · rw [h', e.2]
        rw [show zs.take i = zs.take (i - 1) ++ [zs.getD (i - 1) (0, 0)] by rw [← take_snoc (by omega), Nat.sub_add_cancel e.1]]
        simp
    · show p ∈ (if _ then _ else _) ↔ _
      rw [if_neg e]
      simp only [List.mem_append, ih]
/-- Of a sorted list: ascending, and the last is the last taken. -/
theorem compTo_asc {zs : List (Int × Int)} (hs : zs.Pairwise (fun a b => ¬ ltP b a)) : ∀ i, i ≤ zs.length → Asc (compTo zs i) ∧ ∀ p ∈ compTo zs i, ¬ ltP (zs.getD (i - 1) (0, 0)) p
  | 0, _ => ⟨List.Pairwise.nil, fun p hp => by simp [compTo] at hp⟩
  | i + 1, h => by
    obtain ⟨h1, h2⟩ := compTo_asc hs i (by omega)
    have hle : ∀ a b, a < b → b < zs.length → ¬ ltP (zs.getD b (0, 0)) (zs.getD a (0, 0)) := fun a b hab hb => by
      have := (List.pairwise_iff_getElem.1 hs) a b (by omega) hb hab
      simpa [List.getD, hb, show a < zs.length by omega] using this
    by_cases e : 0 < i ∧ zs.getD i (0, 0) = zs.getD (i - 1) (0, 0)
    · rw [compTo_eq e, show i + 1 - 1 = i from rfl, e.2]
      exact ⟨h1, h2⟩
    · have e' : compTo zs (i + 1) = compTo zs i ++ [zs.getD i (0, 0)] := by
        show (if _ then _ else _) = _
        rw [if_neg e]
      rw [e', show i + 1 - 1 = i from rfl]
      rcases Nat.eq_zero_or_pos i with rfl | hi
      · refine ⟨by simp [compTo, Asc], fun p hp => ?_⟩
        simp [compTo] at hp; subst hp; exact ltP_irr _
      · have hne : ¬ zs.getD i (0, 0) = zs.getD (i - 1) (0, 0) := fun h' => e ⟨hi, h'⟩
        have hlt : ltP (zs.getD (i - 1) (0, 0)) (zs.getD i (0, 0)) := by
          rcases ltP_tri (zs.getD (i - 1) (0, 0)) (zs.getD i (0, 0)) with h' | h' | h'
          · exact h'
          · exact absurd h'.symm hne
          · exact absurd h' (hle _ _ (by omega) (by omega))
        have hlast : ∀ p ∈ compTo zs i, ltP p (zs.getD i (0, 0)) := fun p hp => by
          have := h2 p hp
          rcases ltP_tri p (zs.getD (i - 1) (0, 0)) with h' | h' | h'
          · exact ltP_trans h' hlt
          · rw [h']; exact hlt
          · exact absurd h' this
        refine ⟨List.pairwise_append.2 ⟨h1, List.pairwise_singleton _ _, fun a ha b hb => by rw [List.mem_singleton.1 hb]; exact hlast a ha⟩, fun p hp => ?_⟩
        rcases List.mem_append.1 hp with h' | h'
        · intro h''; exact ltP_irr _ (ltP_trans h'' (hlast p h'))
        · rw [List.mem_singleton.1 h']; exact ltP_irr _
/-- What impl.sorted gives. -/
def IsSet (xs ys : List (Int × Int)) : Prop := Asc ys ∧ ∀ p, p ∈ ys ↔ p ∈ xs
theorem comp_isSet {xs zs : List (Int × Int)} (hp : zs.Perm xs) (hs : zs.Pairwise (fun a b => ¬ ltP b a)) : IsSet xs (compTo zs zs.length) :=
  ⟨(compTo_asc hs _ (Nat.le_refl _)).1, fun p => by rw [compTo_mem zs _ (Nat.le_refl _), List.take_length]; exact hp.mem_iff⟩
end Go.Proofs.Ytfkohliggbajkaa
end
section
set_option linter.unusedSimpArgs false
set_option linter.unusedVariables false
set_option maxHeartbeats 1000000
namespace Go.Proofs.Ytfkohliggbajkaa
open Go.Eng
theorem sorted105_ac (xs : List (Int × Int)) (h0 : 0 < xs.length) (hx : xs.length < 1000000) (H : List ABox) : AC Try.prog 52 [.rd .pt (xs)] H
    (fun r H' => ∃ z : List (Int × Int) × List (Int × Int), (IsSet xs z.1 ∧ z.2.take z.1.length = z.1 ∧ z.1.length ≤ z.2.length) ∧ r = .sl 2 (H.length + 0) 0 z.1.length ∧ H' = H ++ [.row false .pt z.2]) := by
  refine AC.enter envOk Try.func52 rfl (by decide) Try.ntmps52 Try.results52 (by simp) fun hB => ?_
  repeat' (first | (with_reducible first | refine AW.sreg envOk fun K hK => ?_ | refine AW.region envOk fun K hK => ?_ | refine vcL_nil ?_) | (with_reducible (first | refine vcL_cons fun K' hK' => ?_); simp only [isC, Bool.false_or, Bool.or_true, ↓reduceDIte, List.take_length, Nat.le_refl, List.drop_zero, vGuard, undef, Bool.not_eq_eq_eq_not, dstOk, vcOp, vcF, isPure, putS, vcCall, St.ev, St.put, lk, AVal.ofVal, initS, Nat.reduceLT, true_and, and_true, vPart, vLoad, vSlice, bnd, AVal.flat, AVal.cell, cellsOk, setRange, ETy.enc, ETy.dec, ETy.sz, ETy.d, cond, Nat.reduceBEq, Nat.reduceAdd, Int.toNat_natCast, List.length_set, List.length_append, List.length_replicate, List.length_take, Nat.reduceSub, Nat.reduceEqDiff, get_loc, setBox_loc, next_eq, List.length_cons, List.length_nil, List.map_cons, List.map_nil, List.append_nil, List.nil_append, List.cons_append, List.set_cons_zero, List.set_cons_succ, getD_zero, getD_succ, List.getElem?_cons_succ, List.getElem?_cons_zero, List.take_succ_cons, List.take_zero, List.drop_succ_cons, List.all_cons, List.all_nil, Bool.and_true, Bool.true_and, Option.bind_some, Option.map_some, Option.map_none, decide_eq_true_eq, decide_eq_false_iff_not, ne_eq, Bool.not_eq_true, Bool.not_eq_false, Decidable.not_not, not_true_eq_false, not_false_eq_true, forall_const, false_implies, Bool.true_eq_false, Bool.false_eq_true, reduceCtorEq, decide_true, decide_false, Bool.not_true, Bool.not_false, if_true, if_false, Nat.zero_add, Nat.lt_irrefl, Value.oneCell', gt_iff_lt, Nat.reduceLeDiff, Nat.lt_add_one, vsl_28, vkn_28, vvar_28, vzero_28]; try simp (disch := omega) only [wrap64]) | (with_reducible refine hK' _ ?_; clear hK' K') | (with_reducible refine hK _ ?_; clear hK K) | ((with_reducible show vCall _ (AVal.fn 61 _) _ _ _); refine vCall_newE (clone117_ac xs h0 (by omega) _) (show AVal.sl 2 ((H ++ []).length + 0) 0 _ = .sl 2 (H.length + 0) 0 xs.length by simp) ?_) | ((with_reducible show vCall _ (AVal.fn 62 _) _ _ _); refine vCall_ex (sort118_ac xs h0 hx _ 0 rfl _) (fun ys hys => ?_)) | (with_reducible first | refine And.intro (And.intro rfl rfl) ?_ | refine And.intro (by omega) ?_) | (with_reducible refine And.intro (fun hg => ?_) (fun hg => ?_) <;> first | simp only [eq_false hg, decide_true, decide_false, and_true, true_and, and_false, false_and, not_true_eq_false, not_false_eq_true] | simp only [eq_true hg, decide_true, decide_false, and_true, true_and, and_false, false_and, not_true_eq_false, not_false_eq_true] | simp only [hg, decide_true, decide_false, and_true, true_and, and_false, false_and, not_true_eq_false, not_false_eq_true]) | (with_reducible first | refine And.intro rfl (And.intro rfl rfl) | refine thenQ_n ?_ | refine thenQ_exit ?_ | refine thenQ_ret ?_ | refine midQ_ret ?_ | refine midQ_exit ?_ | refine blockQ_same ?_ | refine blockQ_ne (by decide) ?_ | refine blockQ_ret ?_ | refine blockQ_n ?_ | refine AW.exit ?_ | refine AW.block ?_ | refine AW.cond_t rfl ?_ | refine AW.cond_f rfl ?_ | refine AW.cond_dec rfl (fun hc => ?_) (fun hc => ?_)) | (with_reducible refine AW.cond rfl (fun hc => ?_) (fun hc => ?_) <;> try simp only [Bool.not_eq_eq_eq_not, Bool.not_true, Bool.not_false, decide_eq_true_eq, decide_eq_false_iff_not] at hc) | (with_reducible first | refine AW.seq ?_ | refine AW.skip ?_ | refine AW.ret ?_ | refine And.intro ?_ ?_) | (with_reducible intro hg; first | simp only [eq_false hg, decide_true, decide_false, and_true, true_and, and_false, false_and, not_true_eq_false, not_false_eq_true] | simp only [eq_true hg, decide_true, decide_false, and_true, true_and, and_false, false_and, not_true_eq_false, not_false_eq_true]) | (with_reducible refine retQ_drop ?_; simp only [vRes, packRes, vLoad, vPart, lk, cond, Nat.reduceBEq, get_loc, getD_zero, getD_succ, true_and, List.length_cons, List.length_nil, Nat.reduceAdd, Nat.reduceLT, Nat.reduceLeDiff, List.take_succ_cons, List.take_zero, List.drop_succ_cons, List.drop_zero, vsl_28, vkn_28, vvar_28, vzero_28]) )
  have hlen : xs.length = ys.length := hys.1.length_eq.symm
  simp only [List.set_cons_zero, hlen]
  repeat' (first | (with_reducible first | refine AW.sreg envOk fun K hK => ?_ | refine AW.region envOk fun K hK => ?_ | refine vcL_nil ?_) | (with_reducible (first | refine vcL_cons fun K' hK' => ?_); simp only [isC, Bool.false_or, Bool.or_true, ↓reduceDIte, List.take_length, Nat.le_refl, List.drop_zero, vGuard, undef, Bool.not_eq_eq_eq_not, dstOk, vcOp, vcF, isPure, putS, vcCall, St.ev, St.put, lk, AVal.ofVal, initS, Nat.reduceLT, true_and, and_true, vPart, vLoad, vSlice, bnd, AVal.flat, AVal.cell, cellsOk, setRange, ETy.enc, ETy.dec, ETy.sz, ETy.d, cond, Nat.reduceBEq, Nat.reduceAdd, Int.toNat_natCast, List.length_set, List.length_append, List.length_replicate, List.length_take, Nat.reduceSub, Nat.reduceEqDiff, get_loc, setBox_loc, next_eq, List.length_cons, List.length_nil, List.map_cons, List.map_nil, List.append_nil, List.nil_append, List.cons_append, List.set_cons_zero, List.set_cons_succ, getD_zero, getD_succ, List.getElem?_cons_succ, List.getElem?_cons_zero, List.take_succ_cons, List.take_zero, List.drop_succ_cons, List.all_cons, List.all_nil, Bool.and_true, Bool.true_and, Option.bind_some, Option.map_some, Option.map_none, decide_eq_true_eq, decide_eq_false_iff_not, ne_eq, Bool.not_eq_true, Bool.not_eq_false, Decidable.not_not, not_true_eq_false, not_false_eq_true, forall_const, false_implies, Bool.true_eq_false, Bool.false_eq_true, reduceCtorEq, decide_true, decide_false, Bool.not_true, Bool.not_false, if_true, if_false, Nat.zero_add, Nat.lt_irrefl, Value.oneCell', gt_iff_lt, Nat.reduceLeDiff, Nat.lt_add_one, vsl_28, vkn_28, vvar_28, vzero_28, hlen]; try simp (disch := omega) only [wrap64]) | (with_reducible refine hK' _ ?_; clear hK' K') | (with_reducible refine hK _ ?_; clear hK K) | ((with_reducible show vCall _ (AVal.fn 64 _) _ _ _); refine vCall_ex (comp120_ac ys (by omega) _ 0 rfl _) (fun y2 hy2 => ?_)) | (with_reducible first | refine And.intro (And.intro rfl rfl) ?_ | refine And.intro (by omega) ?_) | (with_reducible refine And.intro (fun hg => ?_) (fun hg => ?_) <;> first | simp only [eq_false hg, decide_true, decide_false, and_true, true_and, and_false, false_and, not_true_eq_false, not_false_eq_true] | simp only [eq_true hg, decide_true, decide_false, and_true, true_and, and_false, false_and, not_true_eq_false, not_false_eq_true] | simp only [hg, decide_true, decide_false, and_true, true_and, and_false, false_and, not_true_eq_false, not_false_eq_true]) | (with_reducible first | refine And.intro rfl (And.intro rfl rfl) | refine thenQ_n ?_ | refine thenQ_exit ?_ | refine thenQ_ret ?_ | refine midQ_ret ?_ | refine midQ_exit ?_ | refine blockQ_same ?_ | refine blockQ_ne (by decide) ?_ | refine blockQ_ret ?_ | refine blockQ_n ?_ | refine AW.exit ?_ | refine AW.block ?_ | refine AW.cond_t rfl ?_ | refine AW.cond_f rfl ?_ | refine AW.cond_dec rfl (fun hc => ?_) (fun hc => ?_)) | (with_reducible refine AW.cond rfl (fun hc => ?_) (fun hc => ?_) <;> try simp only [Bool.not_eq_eq_eq_not, Bool.not_true, Bool.not_false, decide_eq_true_eq, decide_eq_false_iff_not] at hc) | (with_reducible first | refine AW.seq ?_ | refine AW.skip ?_ | refine AW.ret ?_ | refine And.intro ?_ ?_) | (with_reducible intro hg; first | simp only [eq_false hg, decide_true, decide_false, and_true, true_and, and_false, false_and, not_true_eq_false, not_false_eq_true] | simp only [eq_true hg, decide_true, decide_false, and_true, true_and, and_false, false_and, not_true_eq_false, not_false_eq_true]) | (with_reducible refine retQ_drop ?_; simp only [vRes, packRes, vLoad, vPart, lk, cond, Nat.reduceBEq, get_loc, getD_zero, getD_succ, true_and, List.length_cons, List.length_nil, Nat.reduceAdd, Nat.reduceLT, Nat.reduceLeDiff, List.take_succ_cons, List.take_zero, List.drop_succ_cons, List.drop_zero, vsl_28, vkn_28, vvar_28, vzero_28]) )
  refine ⟨_, _, FinOk.keep [0] (L := [.row false .pt y2]) hB (by decide) ⟨RenB.plRow rfl, by simp, trivial⟩ (RenV.sl (j := 0) rfl), (compTo ys ys.length, y2), ⟨comp_isSet hys.1 hys.2, hy2.2, ?_⟩, rfl, rfl⟩
  have := compTo_len ys ys.length
  simp only; omega
end Go.Proofs.Ytfkohliggbajkaa
end
section
set_option linter.unusedSimpArgs false
set_option linter.unusedVariables false
set_option maxHeartbeats 1000000
namespace Go.Proofs.Ytfkohliggbajkaa
open Go.Eng
/-- A row may be cut to a prefix. -/
theorem cutRow {c : Ctx} {H : List ABox} {w : World} {zs : List (Int × Int)} {m : Nat} (hm : m ≤ zs.length) (h : RelH c (H ++ [.row false .pt zs]) w) : RelH c (H ++ [.row false .pt (zs.take m)]) w := by
  have back : ∀ (k : Nat) (X : ABox), (H ++ [.row false .pt (zs.take m)])[k]? = some X → X.live = true → ∃ X0, (H ++ [.row false .pt zs])[k]? = some X0 ∧ X0.live = true := fun k X hk hX => by
    by_cases e : k < H.length
    · rw [List.getElem?_append_left e] at hk
      exact ⟨X, by rw [List.getElem?_append_left e]; exact hk, hX⟩
    · have hlt := (List.getElem?_eq_some_iff.1 hk).1
      simp only [List.length_append, List.length_cons, List.length_nil] at hlt
      obtain rfl : k = H.length := by omega
      exact ⟨.row false .pt zs, by simp, rfl⟩
  refine ⟨h.os, h.tape, h.output, h.sealed, fun k hk => h.dom k (by simpa using hk), fun k X hk hX => ?_, fun k k' a a' X X' h1 h2 h3 h4 h5 h6 h7 => ?_⟩
  · by_cases e : k < H.length
    · rw [List.getElem?_append_left e] at hk
      exact h.box k X (by rw [List.getElem?_append_left e]; exact hk) hX
    · have hlt := (List.getElem?_eq_some_iff.1 hk).1
      simp only [List.length_append, List.length_cons, List.length_nil] at hlt
      obtain rfl : k = H.length := by omega
      have hX' : X = .row false .pt (zs.take m) := by simpa using hk.symm
      subst hX'
      obtain ⟨l, hl, cells, T, g1, g2, g3, g4, g5⟩ := h.box H.length (.row false .pt zs) (by simp) rfl
      refine ⟨l, hl, cells, T, g1, g2, g3, by rw [List.length_take]; exact Nat.le_trans (Nat.min_le_right _ _) g4, fun i j hi hj => ?_⟩
      rw [List.length_take] at hi
      have := g5 i j (by omega) hj
      have e2 : (zs.take m).getD i ETy.pt.d = zs.getD i ETy.pt.d := by
        simp only [List.getD]; rw [List.getElem?_take, if_pos (by omega)]
      rw [e2]; exact this
  · obtain ⟨X0, g6, g7⟩ := back k X h1 h2
    obtain ⟨X1, g8, g9⟩ := back k' X' h3 h4
    exact h.inj k k' a a' X0 X1 g6 g7 g8 g9 h5 h6 h7
theorem sorted105p_ac (xs : List (Int × Int)) (h0 : 0 < xs.length) (hx : xs.length < 1000000) (H : List ABox) : AC Try.prog 52 [.rd .pt (xs)] H
    (fun r H' => ∃ ys : List (Int × Int), IsSet xs ys ∧ r = .sl 2 (H.length + 0) 0 ys.length ∧ H' = H ++ [.row false .pt ys]) := by
  have h := sorted105_ac xs h0 hx H
  refine ⟨h.1, fun c vs w hv hh => (h.2 c vs w hv hh).mono ?_⟩
  rintro e w' ⟨c', r, v, H', h1, h2, h3, h4, z, ⟨hz1, hz2, hz3⟩, hr, rfl⟩
  have h5 := cutRow hz3 h4
  rw [hz2] at h5
  exact ⟨c', r, v, _, h1, h2, h3, h5, z.1, hz1, hr, rfl⟩
/-- The set of the points, in order. -/
noncomputable def setOf (xs : List (Int × Int)) : List (Int × Int) := open Classical in if h : ∃ ys, IsSet xs ys then h.choose else []
theorem setOf_eq {xs ys : List (Int × Int)} (h : IsSet xs ys) : ys = setOf xs := by
  have he : ∃ ys, IsSet xs ys := ⟨ys, h⟩
  have h2 : IsSet xs (setOf xs) := by
    unfold setOf; rw [dif_pos he]; exact he.choose_spec
  exact asc_unique h.1 h2.1 (fun p => (h.2 p).trans (h2.2 p).symm)
theorem sorted105f_ac (xs : List (Int × Int)) (h0 : 0 < xs.length) (hx : xs.length < 1000000) (H : List ABox) : AC Try.prog 52 [.rd .pt (xs)] H (fun r H' => r = .sl 2 (H.length + 0) 0 (setOf xs).length ∧ H' = H ++ [.row false .pt (setOf xs)]) :=
  (sorted105p_ac xs h0 hx H).mono fun r H' ⟨ys, h, h1, h2⟩ => by
    have := setOf_eq h
    subst this
    exact ⟨h1, h2⟩
theorem comp120n_ac (X : AVal) (hX : X = .v (.slice none 0 0) ∨ ∃ k, X = .sl 2 k 0 0) (H : List ABox) (hi : IdsLt H.length X) : AC Try.prog 64 [X] H (fun r H' => r = X ∧ H' = H) := by
  rcases hX with rfl | ⟨k, rfl⟩
  all_goals
    refine AC.enter envOk Try.func64 rfl (by decide) Try.ntmps64 Try.results64 (by simp) fun hB => ?_
    repeat' (first | (with_reducible first | refine AW.sreg envOk fun K hK => ?_ | refine AW.region envOk fun K hK => ?_) | (with_reducible refine AW.d0reg envOk mixed ?_ ?_ fun K hK => ?_; (first | rfl | exact base_len | exact base_len0); kernel_rfl) | (with_reducible refine AW.d0 envOk mixed ?_ ?_ fun K hK => ?_; (first | rfl | exact base_len | exact base_len0); kernel_rfl) | (with_reducible first | refine vcD_nil ?_ | refine vcL_nil ?_) | (with_reducible (first | refine vcD_cons fun K' hK' => ?_ | refine vcL_cons fun K' hK' => ?_); simp only [isC, Bool.false_or, Bool.or_true, ↓reduceDIte, List.take_length, Nat.le_refl, List.drop_zero, vGuard, undef, Bool.not_eq_eq_eq_not, dstOk, vcOp, vcF, isPure, putS, vcCall, St.ev, St.put, lk, AVal.ofVal, initS, Nat.reduceLT, true_and, and_true, vBin, vPart, vLoad, vStore, vIdxA, vLen, vSlice, bnd, AVal.flat, AVal.cell, cellsOk, setRange, ETy.enc, ETy.dec, ETy.sz, ETy.d, cond, Nat.reduceBEq, Nat.reduceAdd, Int.toNat_natCast, List.length_set, List.length_append, List.length_replicate, List.length_take, Nat.reduceSub, Nat.reduceEqDiff, get_loc, setBox_loc, next_eq, List.length_cons, List.length_nil, List.map_cons, List.map_nil, List.append_nil, List.nil_append, List.cons_append, List.set_cons_zero, List.set_cons_succ, getD_zero, getD_succ, List.getElem?_cons_succ, List.getElem?_cons_zero, List.take_succ_cons, List.take_zero, List.drop_succ_cons, List.all_cons, List.all_nil, Bool.and_true, Bool.true_and, Option.bind_some, Option.map_some, Option.map_none, decide_eq_true_eq, decide_eq_false_iff_not, ne_eq, Bool.not_eq_true, Bool.not_eq_false, Decidable.not_not, not_true_eq_false, not_false_eq_true, forall_const, false_implies, Bool.true_eq_false, Bool.false_eq_true, reduceCtorEq, decide_true, decide_false, Bool.not_true, Bool.not_false, if_true, if_false, Nat.zero_add, Nat.lt_irrefl, Value.oneCell', gt_iff_lt, Nat.reduceLeDiff, Nat.lt_add_one, vvar_3, vzero_3, vknd_3, vsn_3, vvar_4, vzero_4, vknd_4, vsn_4, vsl_28, vkn_28, vvar_28, vzero_28, vvar_33, vzero_33, vbld_33, vpts_33]; try simp (disch := omega) only [wrap64]) | (with_reducible refine hK' _ ?_; clear hK' K') | (with_reducible refine hK _ ?_; clear hK K) | (with_reducible first | refine And.intro (And.intro rfl rfl) ?_ | refine And.intro (by omega) ?_) | (with_reducible refine And.intro (fun hg => ?_) (fun hg => ?_) <;> first | simp only [eq_false hg, decide_true, decide_false, and_true, true_and, and_false, false_and, not_true_eq_false, not_false_eq_true] | simp only [eq_true hg, decide_true, decide_false, and_true, true_and, and_false, false_and, not_true_eq_false, not_false_eq_true] | simp only [hg, decide_true, decide_false, and_true, true_and, and_false, false_and, not_true_eq_false, not_false_eq_true]) | (with_reducible first | refine And.intro rfl (And.intro rfl rfl) | refine thenQ_n ?_ | refine thenQ_exit ?_ | refine thenQ_ret ?_ | refine midQ_ret ?_ | refine midQ_exit ?_ | refine blockQ_same ?_ | refine blockQ_ne (by decide) ?_ | refine blockQ_ret ?_ | refine blockQ_n ?_ | refine AW.exit ?_ | refine AW.block ?_ | refine AW.cond_t rfl ?_ | refine AW.cond_f rfl ?_ | refine AW.cond_dec rfl (fun hc => ?_) (fun hc => ?_)) | (with_reducible refine AW.cond rfl (fun hc => ?_) (fun hc => ?_) <;> try simp only [Bool.not_eq_eq_eq_not, Bool.not_true, Bool.not_false, decide_eq_true_eq, decide_eq_false_iff_not] at hc) | (with_reducible first | refine AW.seq ?_ | refine AW.skip ?_ | refine AW.ret ?_ | refine And.intro ?_ ?_) | (with_reducible intro hg; first | simp only [eq_false hg, decide_true, decide_false, and_true, true_and, and_false, false_and, not_true_eq_false, not_false_eq_true] | simp only [eq_true hg, decide_true, decide_false, and_true, true_and, and_false, false_and, not_true_eq_false, not_false_eq_true]) | (with_reducible refine retQ_drop ?_; simp only [vRes, packRes, vLoad, vPart, lk, cond, Nat.reduceBEq, get_loc, getD_zero, getD_succ, true_and, List.length_cons, List.length_nil, Nat.reduceAdd, Nat.reduceLT, Nat.reduceLeDiff, List.take_succ_cons, List.take_zero, List.drop_succ_cons, List.drop_zero, vvar_3, vzero_3, vknd_3, vsn_3, vvar_4, vzero_4, vknd_4, vsn_4, vsl_28, vkn_28, vvar_28, vzero_28, vvar_33, vzero_33, vbld_33, vpts_33]) )
    first
      | exact ⟨_, _, FinOk.drop hB hi, rfl, rfl⟩
      | (exfalso; omega)
/-- The points that are marked from k on. -/
def markPts (k : Int) (n : Nat) : List (Int × Int) := (List.range n).map (fun j : Nat => (k + 2 * (j : Int), k + 2 * (j : Int) + 1))
theorem markPts_len (k : Int) (n : Nat) : (markPts k n).length = n := by simp [markPts]
theorem markPts_succ (k : Int) (n : Nat) : markPts k (n + 1) = markPts k n ++ [(k + 2 * (n : Int), k + 2 * (n : Int) + 1)] := by simp [markPts, List.range_succ]
theorem markPts_getD (k : Int) {n i : Nat} (h : i < n) : (markPts k n).getD i (0, 0) = (k + 2 * (i : Int), k + 2 * (i : Int) + 1) := by simp [markPts, List.getD, h]
theorem mark_set (ws : List (Int × Int)) (k : Int) {i : Nat} (h : i < ws.length) (p : Int × Int) : (markPts k i ++ ws.drop i).set i p = markPts k i ++ p :: ws.drop (i + 1) := by
  rw [List.set_append, if_neg (by rw [markPts_len]; omega), markPts_len, Nat.sub_self, List.drop_eq_getElem_cons h]; rfl
theorem mark_set2 (ws : List (Int × Int)) (k : Int) {i : Nat} (p q : Int × Int) : (markPts k i ++ p :: ws).set i q = markPts k i ++ q :: ws := by
  rw [List.set_append, if_neg (by rw [markPts_len]; omega), markPts_len, Nat.sub_self]; rfl
theorem mark_get2 (ws : List (Int × Int)) (k : Int) {i : Nat} (p : Int × Int) : (markPts k i ++ p :: ws).getD i (0, 0) = p := by
  simp only [List.getD]
  rw [List.getElem?_append_right (by rw [markPts_len]; omega), markPts_len, Nat.sub_self]; rfl
theorem mark64_ac (ws : List (Int × Int)) (k : Int) (hx : ws.length ≤ 100000000) (hk : 0 ≤ k ∧ k ≤ 1000000000) (l : List ABox) (j : Nat) (hj : l[j]? = some (.row false .pt ws)) (H : List ABox) :
    AC Try.prog 15 [.sl 2 (H.length + j) 0 (ws.length), .v (.int .i64 (k))] (H ++ l) (fun r H' => r = .v (.int .i64 (k + 2 * (ws.length : Int))) ∧ H' = H ++ l.set j (.row false .pt (markPts k ws.length))) := by
  have hjl : j < l.length := (List.getElem?_eq_some_iff.1 hj).1
  have hl : l.set j (.row false .pt ws) = l := set_same hj
  refine AC.enter envOk Try.func15 rfl (by decide) Try.ntmps15 Try.results15 (by simp) fun hB => ?_
  repeat' (first | (with_reducible first | refine AW.sreg envOk fun K hK => ?_ | refine AW.region envOk fun K hK => ?_ | refine vcL_nil ?_) | (with_reducible (first | refine vcL_cons fun K' hK' => ?_); simp only [isC, Bool.false_or, Bool.or_true, ↓reduceDIte, List.take_length, Nat.le_refl, List.drop_zero, vGuard, undef, Bool.not_eq_eq_eq_not, dstOk, vcOp, vcF, isPure, putS, vcCall, St.ev, St.put, lk, AVal.ofVal, initS, Nat.reduceLT, true_and, and_true, vBin, vPart, vLoad, vStore, vIdxA, vFldA, vLen, AVal.flat, AVal.cell, cellsOk, setRange, ETy.enc, ETy.dec, ETy.sz, ETy.d, cond, Nat.reduceBEq, Nat.reduceAdd, Int.toNat_natCast, List.length_set, List.length_append, List.length_replicate, List.length_take, Nat.reduceSub, Nat.reduceEqDiff, get_loc, setBox_loc, next_eq, List.length_cons, List.length_nil, List.map_cons, List.map_nil, List.append_nil, List.nil_append, List.cons_append, List.set_cons_zero, List.set_cons_succ, getD_zero, getD_succ, List.getElem?_cons_succ, List.getElem?_cons_zero, List.take_succ_cons, List.take_zero, List.drop_succ_cons, List.all_cons, List.all_nil, Bool.and_true, Bool.true_and, Option.bind_some, Option.map_some, Option.map_none, decide_eq_true_eq, decide_eq_false_iff_not, ne_eq, Bool.not_eq_true, Bool.not_eq_false, Decidable.not_not, not_true_eq_false, not_false_eq_true, forall_const, false_implies, Bool.true_eq_false, Bool.false_eq_true, reduceCtorEq, decide_true, decide_false, Bool.not_true, Bool.not_false, if_true, if_false, Nat.zero_add, Nat.lt_irrefl, Value.oneCell', gt_iff_lt, Nat.reduceLeDiff, Nat.lt_add_one, vvar_2, vzero_2, vknd_2, vsn_2, vvar_3, vzero_3, vknd_3, vsn_3, vvar_4, vzero_4, vknd_4, vsn_4, vsl_28, vkn_28, vvar_28, vzero_28, vvar_33, vzero_33, vbld_33, vpts_33, vfld_33_0, vfld_33_1]; try simp (disch := omega) only [wrap64]) | (with_reducible refine hK' _ ?_; clear hK' K') | (with_reducible refine hK _ ?_; clear hK K) | (with_reducible first | refine And.intro (And.intro rfl rfl) ?_ | refine And.intro (by omega) ?_) | (with_reducible refine And.intro (fun hg => ?_) (fun hg => ?_) <;> first | simp only [eq_false hg, decide_true, decide_false, and_true, true_and, and_false, false_and, not_true_eq_false, not_false_eq_true] | simp only [eq_true hg, decide_true, decide_false, and_true, true_and, and_false, false_and, not_true_eq_false, not_false_eq_true] | simp only [hg, decide_true, decide_false, and_true, true_and, and_false, false_and, not_true_eq_false, not_false_eq_true]) | (with_reducible first | refine And.intro rfl (And.intro rfl rfl) | refine thenQ_n ?_ | refine thenQ_exit ?_ | refine thenQ_ret ?_ | refine midQ_ret ?_ | refine midQ_exit ?_ | refine blockQ_same ?_ | refine blockQ_ne (by decide) ?_ | refine blockQ_ret ?_ | refine blockQ_n ?_ | refine AW.exit ?_ | refine AW.block ?_ | refine AW.cond_t rfl ?_ | refine AW.cond_f rfl ?_ | refine AW.cond_dec rfl (fun hc => ?_) (fun hc => ?_)) | (with_reducible refine AW.cond rfl (fun hc => ?_) (fun hc => ?_) <;> try simp only [Bool.not_eq_eq_eq_not, Bool.not_true, Bool.not_false, decide_eq_true_eq, decide_eq_false_iff_not] at hc) | (with_reducible first | refine AW.seq ?_ | refine AW.skip ?_ | refine AW.ret ?_ | refine And.intro ?_ ?_) | (with_reducible intro hg; first | simp only [eq_false hg, decide_true, decide_false, and_true, true_and, and_false, false_and, not_true_eq_false, not_false_eq_true] | simp only [eq_true hg, decide_true, decide_false, and_true, true_and, and_false, false_and, not_true_eq_false, not_false_eq_true]) | (with_reducible refine retQ_drop ?_; simp only [vRes, packRes, vLoad, vPart, lk, cond, Nat.reduceBEq, get_loc, getD_zero, getD_succ, true_and, List.length_cons, List.length_nil, Nat.reduceAdd, Nat.reduceLT, Nat.reduceLeDiff, List.take_succ_cons, List.take_zero, List.drop_succ_cons, List.drop_zero, vvar_2, vzero_2, vknd_2, vsn_2, vvar_3, vzero_3, vknd_3, vsn_3, vvar_4, vzero_4, vknd_4, vsn_4, vsl_28, vkn_28, vvar_28, vzero_28, vvar_33, vzero_33, vbld_33, vpts_33, vfld_33_0, vfld_33_1]) )
  refine AW.loop (fun i : Nat => (⟨27, [(0, .sl 2 (H.length + j) 0 (ws.length)), (1, .v (.int .i64 (k + 2 * (i : Int)))), (5, .v (.int .i64 ((i : Int))))], H ++ l.set j (.row false .pt (markPts k i ++ ws.drop i)), []⟩ : St)) (fun i => i ≤ ws.length) (fun i => ws.length - i) 0 (Nat.zero_le _) ?_ ?_
  · rw [show markPts k 0 ++ ws.drop 0 = ws by simp [markPts], hl, Int.natCast_zero, Int.mul_zero, Int.add_zero]
    exact (Weak.slots (by repeat' first | exact trivial | exact ⟨rfl, trivial⟩ | refine ⟨rfl, ?_⟩))
  · intro i hi
    have hml : (markPts k i ++ ws.drop i).length = ws.length := by rw [List.length_append, markPts_len, List.length_drop]; omega
    have hml2 := markPts_len k i
    repeat' (first | (with_reducible first | refine AW.sreg envOk fun K hK => ?_ | refine AW.region envOk fun K hK => ?_ | refine vcL_nil ?_) | (with_reducible (first | refine vcL_cons fun K' hK' => ?_); simp only [isC, Bool.false_or, Bool.or_true, ↓reduceDIte, List.take_length, Nat.le_refl, List.drop_zero, vGuard, undef, Bool.not_eq_eq_eq_not, dstOk, vcOp, vcF, isPure, putS, vcCall, St.ev, St.put, lk, AVal.ofVal, initS, Nat.reduceLT, true_and, and_true, vBin, vPart, vLoad, vStore, vIdxA, vFldA, vLen, AVal.flat, AVal.cell, cellsOk, setRange, ETy.enc, ETy.dec, ETy.sz, ETy.d, cond, Nat.reduceBEq, Nat.reduceAdd, Int.toNat_natCast, List.length_set, List.length_append, List.length_replicate, List.length_take, Nat.reduceSub, Nat.reduceEqDiff, get_bl, setBox_bl, next_bl, List.length_cons, List.length_nil, List.map_cons, List.map_nil, List.append_nil, List.nil_append, List.cons_append, List.set_cons_zero, List.set_cons_succ, getD_zero, getD_succ, List.getElem?_cons_succ, List.getElem?_cons_zero, List.take_succ_cons, List.take_zero, List.drop_succ_cons, List.all_cons, List.all_nil, Bool.and_true, Bool.true_and, Option.bind_some, Option.map_some, Option.map_none, decide_eq_true_eq, decide_eq_false_iff_not, ne_eq, Bool.not_eq_true, Bool.not_eq_false, Decidable.not_not, not_true_eq_false, not_false_eq_true, forall_const, false_implies, Bool.true_eq_false, Bool.false_eq_true, reduceCtorEq, decide_true, decide_false, Bool.not_true, Bool.not_false, if_true, if_false, Nat.zero_add, Nat.lt_irrefl, Value.oneCell', gt_iff_lt, Nat.reduceLeDiff, Nat.lt_add_one, vvar_2, vzero_2, vknd_2, vsn_2, vvar_3, vzero_3, vknd_3, vsn_3, vvar_4, vzero_4, vknd_4, vsn_4, vsl_28, vkn_28, vvar_28, vzero_28, vvar_33, vzero_33, vbld_33, vpts_33, vfld_33_0, vfld_33_1, get_set hjl, get_set0 hjl, set_again, hjl, Nat.zero_add, hml2, List.length_drop]; try simp (disch := omega) only [wrap64]) | (with_reducible refine hK' _ ?_; clear hK' K') | (with_reducible refine hK _ ?_; clear hK K) | (with_reducible first | refine And.intro (And.intro rfl rfl) ?_ | refine And.intro (by omega) ?_) | (with_reducible refine And.intro (fun hg => ?_) (fun hg => ?_) <;> first | simp only [eq_false hg, decide_true, decide_false, and_true, true_and, and_false, false_and, not_true_eq_false, not_false_eq_true] | simp only [eq_true hg, decide_true, decide_false, and_true, true_and, and_false, false_and, not_true_eq_false, not_false_eq_true] | simp only [hg, decide_true, decide_false, and_true, true_and, and_false, false_and, not_true_eq_false, not_false_eq_true]) | (with_reducible first | refine And.intro rfl (And.intro rfl rfl) | refine thenQ_n ?_ | refine thenQ_exit ?_ | refine thenQ_ret ?_ | refine midQ_ret ?_ | refine midQ_exit ?_ | refine blockQ_same ?_ | refine blockQ_ne (by decide) ?_ | refine blockQ_ret ?_ | refine blockQ_n ?_ | refine AW.exit ?_ | refine AW.block ?_ | refine AW.cond_t rfl ?_ | refine AW.cond_f rfl ?_ | refine AW.cond_dec rfl (fun hc => ?_) (fun hc => ?_)) | (with_reducible refine AW.cond rfl (fun hc => ?_) (fun hc => ?_) <;> try simp only [Bool.not_eq_eq_eq_not, Bool.not_true, Bool.not_false, decide_eq_true_eq, decide_eq_false_iff_not] at hc) | (with_reducible first | refine AW.seq ?_ | refine AW.skip ?_ | refine AW.ret ?_ | refine And.intro ?_ ?_) | (with_reducible intro hg; first | simp only [eq_false hg, decide_true, decide_false, and_true, true_and, and_false, false_and, not_true_eq_false, not_false_eq_true] | simp only [eq_true hg, decide_true, decide_false, and_true, true_and, and_false, false_and, not_true_eq_false, not_false_eq_true]) | (with_reducible refine retQ_drop ?_; simp only [vRes, packRes, vLoad, vPart, lk, cond, Nat.reduceBEq, get_bl, getD_zero, getD_succ, true_and, List.length_cons, List.length_nil, Nat.reduceAdd, Nat.reduceLT, Nat.reduceLeDiff, List.take_succ_cons, List.take_zero, List.drop_succ_cons, List.drop_zero, vvar_2, vzero_2, vknd_2, vsn_2, vvar_3, vzero_3, vknd_3, vsn_3, vvar_4, vzero_4, vknd_4, vsn_4, vsl_28, vkn_28, vvar_28, vzero_28, vvar_33, vzero_33, vbld_33, vpts_33, vfld_33_0, vfld_33_1]) )
    · refine ⟨i + 1, by omega, by omega, ?_⟩
      have hlt : i < ws.length := by omega
      simp only [List.set_set, mark_set ws k hlt, mark_set2, mark_get2]
      rw [markPts_succ, List.append_assoc, List.singleton_append, show k + 2 * ((i + 1 : Nat) : Int) = k + 2 * (i : Int) + 1 + 1 by omega]
      exact (Weak.slots (by repeat' first | exact trivial | exact ⟨rfl, trivial⟩ | refine ⟨rfl, ?_⟩))
    · obtain rfl : i = ws.length := by omega
      rw [List.drop_length, List.append_nil]
      exact ⟨_, _, FinOk.base, rfl, rfl⟩
/-- Does a list hold the marks from k on? -/
theorem held65_ac (n : Nat) (k : Int) (hx : n ≤ 100000000) (hk : 0 ≤ k ∧ k ≤ 1000000000) (H : List ABox) : AC Try.prog 16 [.rd .pt (markPts k n), .v (.int .i64 (k))] H (fun r H' => r = .v (.int .i64 (k + 2 * (n : Int))) ∧ H' = H) := by
  have hml := markPts_len k n
  refine AC.enter envOk Try.func16 rfl (by decide) Try.ntmps16 Try.results16 (by simp) fun hB => ?_
  repeat' (first | (with_reducible first | refine AW.sreg envOk fun K hK => ?_ | refine AW.region envOk fun K hK => ?_ | refine vcL_nil ?_) | (with_reducible (first | refine vcL_cons fun K' hK' => ?_); simp only [isC, Bool.false_or, Bool.or_true, ↓reduceDIte, List.take_length, Nat.le_refl, List.drop_zero, vGuard, undef, Bool.not_eq_eq_eq_not, dstOk, vcOp, vcF, isPure, putS, vcCall, St.ev, St.put, lk, AVal.ofVal, initS, Nat.reduceLT, true_and, and_true, vBin, vPart, vLoad, vIdxA, vFldA, vLen, AVal.flat, AVal.cell, cellsOk, setRange, ETy.enc, ETy.dec, ETy.sz, ETy.d, cond, Nat.reduceBEq, Nat.reduceAdd, Int.toNat_natCast, List.length_set, List.length_append, List.length_replicate, List.length_take, Nat.reduceSub, Nat.reduceEqDiff, get_loc, setBox_loc, next_eq, List.length_cons, List.length_nil, List.map_cons, List.map_nil, List.append_nil, List.nil_append, List.cons_append, List.set_cons_zero, List.set_cons_succ, getD_zero, getD_succ, List.getElem?_cons_succ, List.getElem?_cons_zero, List.take_succ_cons, List.take_zero, List.drop_succ_cons, List.all_cons, List.all_nil, Bool.and_true, Bool.true_and, Option.bind_some, Option.map_some, Option.map_none, decide_eq_true_eq, decide_eq_false_iff_not, ne_eq, Bool.not_eq_true, Bool.not_eq_false, Decidable.not_not, not_true_eq_false, not_false_eq_true, forall_const, false_implies, Bool.true_eq_false, Bool.false_eq_true, reduceCtorEq, decide_true, decide_false, Bool.not_true, Bool.not_false, if_true, if_false, Nat.zero_add, Nat.lt_irrefl, Value.oneCell', gt_iff_lt, Nat.reduceLeDiff, Nat.lt_add_one, vvar_2, vzero_2, vknd_2, vsn_2, vvar_3, vzero_3, vknd_3, vsn_3, vvar_4, vzero_4, vknd_4, vsn_4, vsl_28, vkn_28, vvar_28, vzero_28, vvar_33, vzero_33, vbld_33, vpts_33, vfld_33_0, vfld_33_1]; try simp (disch := omega) only [wrap64]) | (with_reducible refine hK' _ ?_; clear hK' K') | (with_reducible refine hK _ ?_; clear hK K) | (with_reducible first | refine And.intro (And.intro rfl rfl) ?_ | refine And.intro (by omega) ?_) | (with_reducible refine And.intro (fun hg => ?_) (fun hg => ?_) <;> first | simp only [eq_false hg, decide_true, decide_false, and_true, true_and, and_false, false_and, not_true_eq_false, not_false_eq_true] | simp only [eq_true hg, decide_true, decide_false, and_true, true_and, and_false, false_and, not_true_eq_false, not_false_eq_true] | simp only [hg, decide_true, decide_false, and_true, true_and, and_false, false_and, not_true_eq_false, not_false_eq_true]) | (with_reducible first | refine And.intro rfl (And.intro rfl rfl) | refine thenQ_n ?_ | refine thenQ_exit ?_ | refine thenQ_ret ?_ | refine midQ_ret ?_ | refine midQ_exit ?_ | refine blockQ_same ?_ | refine blockQ_ne (by decide) ?_ | refine blockQ_ret ?_ | refine blockQ_n ?_ | refine AW.exit ?_ | refine AW.block ?_ | refine AW.cond_t rfl ?_ | refine AW.cond_f rfl ?_ | refine AW.cond_dec rfl (fun hc => ?_) (fun hc => ?_)) | (with_reducible refine AW.cond rfl (fun hc => ?_) (fun hc => ?_) <;> try simp only [Bool.not_eq_eq_eq_not, Bool.not_true, Bool.not_false, decide_eq_true_eq, decide_eq_false_iff_not] at hc) | (with_reducible first | refine AW.seq ?_ | refine AW.skip ?_ | refine AW.ret ?_ | refine And.intro ?_ ?_) | (with_reducible intro hg; first | simp only [eq_false hg, decide_true, decide_false, and_true, true_and, and_false, false_and, not_true_eq_false, not_false_eq_true] | simp only [eq_true hg, decide_true, decide_false, and_true, true_and, and_false, false_and, not_true_eq_false, not_false_eq_true]) | (with_reducible refine retQ_drop ?_; simp only [vRes, packRes, vLoad, vPart, lk, cond, Nat.reduceBEq, get_loc, getD_zero, getD_succ, true_and, List.length_cons, List.length_nil, Nat.reduceAdd, Nat.reduceLT, Nat.reduceLeDiff, List.take_succ_cons, List.take_zero, List.drop_succ_cons, List.drop_zero, vvar_2, vzero_2, vknd_2, vsn_2, vvar_3, vzero_3, vknd_3, vsn_3, vvar_4, vzero_4, vknd_4, vsn_4, vsl_28, vkn_28, vvar_28, vzero_28, vvar_33, vzero_33, vbld_33, vpts_33, vfld_33_0, vfld_33_1]) )
  refine AW.loop (fun i : Nat => (⟨31, [(0, .rd .pt (markPts k n)), (1, .v (.int .i64 (k + 2 * (i : Int)))), (5, .v (.int .i64 ((i : Int))))], H, []⟩ : St)) (fun i => i ≤ n) (fun i => n - i) 0 (Nat.zero_le _) ?_ ?_
  · rw [Int.natCast_zero, Int.mul_zero, Int.add_zero]
    exact (Weak.slots (by repeat' first | exact trivial | exact ⟨rfl, trivial⟩ | refine ⟨rfl, ?_⟩))
  · intro i hi
    by_cases hin : i < n
    · have hg2 := markPts_getD k hin
      repeat' (first | (with_reducible first | refine AW.sreg envOk fun K hK => ?_ | refine AW.region envOk fun K hK => ?_ | refine vcL_nil ?_) | (with_reducible (first | refine vcL_cons fun K' hK' => ?_); simp only [isC, Bool.false_or, Bool.or_true, ↓reduceDIte, List.take_length, Nat.le_refl, List.drop_zero, vGuard, undef, Bool.not_eq_eq_eq_not, dstOk, vcOp, vcF, isPure, putS, vcCall, St.ev, St.put, lk, AVal.ofVal, initS, Nat.reduceLT, true_and, and_true, vBin, vPart, vLoad, vIdxA, vFldA, vLen, AVal.flat, AVal.cell, cellsOk, setRange, ETy.enc, ETy.dec, ETy.sz, ETy.d, cond, Nat.reduceBEq, Nat.reduceAdd, Int.toNat_natCast, List.length_set, List.length_append, List.length_replicate, List.length_take, Nat.reduceSub, Nat.reduceEqDiff, get_loc, setBox_loc, next_eq, List.length_cons, List.length_nil, List.map_cons, List.map_nil, List.append_nil, List.nil_append, List.cons_append, List.set_cons_zero, List.set_cons_succ, getD_zero, getD_succ, List.getElem?_cons_succ, List.getElem?_cons_zero, List.take_succ_cons, List.take_zero, List.drop_succ_cons, List.all_cons, List.all_nil, Bool.and_true, Bool.true_and, Option.bind_some, Option.map_some, Option.map_none, decide_eq_true_eq, decide_eq_false_iff_not, ne_eq, Bool.not_eq_true, Bool.not_eq_false, Decidable.not_not, not_true_eq_false, not_false_eq_true, forall_const, false_implies, Bool.true_eq_false, Bool.false_eq_true, reduceCtorEq, decide_true, decide_false, Bool.not_true, Bool.not_false, if_true, if_false, Nat.zero_add, Nat.lt_irrefl, Value.oneCell', gt_iff_lt, Nat.reduceLeDiff, Nat.lt_add_one, vvar_2, vzero_2, vknd_2, vsn_2, vvar_3, vzero_3, vknd_3, vsn_3, vvar_4, vzero_4, vknd_4, vsn_4, vsl_28, vkn_28, vvar_28, vzero_28, vvar_33, vzero_33, vbld_33, vpts_33, vfld_33_0, vfld_33_1, hml, hg2]; try simp (disch := omega) only [wrap64]) | (with_reducible refine hK' _ ?_; clear hK' K') | (with_reducible refine hK _ ?_; clear hK K) | (with_reducible first | refine And.intro (And.intro rfl rfl) ?_ | refine And.intro (by omega) ?_) | (with_reducible refine And.intro (fun hg => ?_) (fun hg => ?_) <;> first | simp only [eq_false hg, decide_true, decide_false, and_true, true_and, and_false, false_and, not_true_eq_false, not_false_eq_true] | simp only [eq_true hg, decide_true, decide_false, and_true, true_and, and_false, false_and, not_true_eq_false, not_false_eq_true] | simp only [hg, decide_true, decide_false, and_true, true_and, and_false, false_and, not_true_eq_false, not_false_eq_true]) | (with_reducible first | refine And.intro rfl (And.intro rfl rfl) | refine thenQ_n ?_ | refine thenQ_exit ?_ | refine thenQ_ret ?_ | refine midQ_ret ?_ | refine midQ_exit ?_ | refine blockQ_same ?_ | refine blockQ_ne (by decide) ?_ | refine blockQ_ret ?_ | refine blockQ_n ?_ | refine AW.exit ?_ | refine AW.block ?_ | refine AW.cond_t rfl ?_ | refine AW.cond_f rfl ?_ | refine AW.cond_dec rfl (fun hc => ?_) (fun hc => ?_)) | (with_reducible refine AW.cond rfl (fun hc => ?_) (fun hc => ?_) <;> try simp only [Bool.not_eq_eq_eq_not, Bool.not_true, Bool.not_false, decide_eq_true_eq, decide_eq_false_iff_not] at hc) | (with_reducible first | refine AW.seq ?_ | refine AW.skip ?_ | refine AW.ret ?_ | refine And.intro ?_ ?_) | (with_reducible intro hg; first | simp only [eq_false hg, decide_true, decide_false, and_true, true_and, and_false, false_and, not_true_eq_false, not_false_eq_true] | simp only [eq_true hg, decide_true, decide_false, and_true, true_and, and_false, false_and, not_true_eq_false, not_false_eq_true]) | (with_reducible refine retQ_drop ?_; simp only [vRes, packRes, vLoad, vPart, lk, cond, Nat.reduceBEq, get_loc, getD_zero, getD_succ, true_and, List.length_cons, List.length_nil, Nat.reduceAdd, Nat.reduceLT, Nat.reduceLeDiff, List.take_succ_cons, List.take_zero, List.drop_succ_cons, List.drop_zero, vvar_2, vzero_2, vknd_2, vsn_2, vvar_3, vzero_3, vknd_3, vsn_3, vvar_4, vzero_4, vknd_4, vsn_4, vsl_28, vkn_28, vvar_28, vzero_28, vvar_33, vzero_33, vbld_33, vpts_33, vfld_33_0, vfld_33_1]) )
      all_goals try (exfalso; omega)
      · refine ⟨i + 1, by omega, by omega, ?_⟩
        rw [show k + 2 * ((i + 1 : Nat) : Int) = k + 2 * (i : Int) + 1 + 1 by omega]
        exact (Weak.slots (by repeat' first | exact trivial | exact ⟨rfl, trivial⟩ | refine ⟨rfl, ?_⟩))
    · obtain rfl : i = n := by omega
      repeat' (first | (with_reducible first | refine AW.sreg envOk fun K hK => ?_ | refine AW.region envOk fun K hK => ?_ | refine vcL_nil ?_) | (with_reducible (first | refine vcL_cons fun K' hK' => ?_); simp only [isC, Bool.false_or, Bool.or_true, ↓reduceDIte, List.take_length, Nat.le_refl, List.drop_zero, vGuard, undef, Bool.not_eq_eq_eq_not, dstOk, vcOp, vcF, isPure, putS, vcCall, St.ev, St.put, lk, AVal.ofVal, initS, Nat.reduceLT, true_and, and_true, vBin, vPart, vLoad, vIdxA, vFldA, vLen, AVal.flat, AVal.cell, cellsOk, setRange, ETy.enc, ETy.dec, ETy.sz, ETy.d, cond, Nat.reduceBEq, Nat.reduceAdd, Int.toNat_natCast, List.length_set, List.length_append, List.length_replicate, List.length_take, Nat.reduceSub, Nat.reduceEqDiff, get_loc, setBox_loc, next_eq, List.length_cons, List.length_nil, List.map_cons, List.map_nil, List.append_nil, List.nil_append, List.cons_append, List.set_cons_zero, List.set_cons_succ, getD_zero, getD_succ, List.getElem?_cons_succ, List.getElem?_cons_zero, List.take_succ_cons, List.take_zero, List.drop_succ_cons, List.all_cons, List.all_nil, Bool.and_true, Bool.true_and, Option.bind_some, Option.map_some, Option.map_none, decide_eq_true_eq, decide_eq_false_iff_not, ne_eq, Bool.not_eq_true, Bool.not_eq_false, Decidable.not_not, not_true_eq_false, not_false_eq_true, forall_const, false_implies, Bool.true_eq_false, Bool.false_eq_true, reduceCtorEq, decide_true, decide_false, Bool.not_true, Bool.not_false, if_true, if_false, Nat.zero_add, Nat.lt_irrefl, Value.oneCell', gt_iff_lt, Nat.reduceLeDiff, Nat.lt_add_one, vvar_2, vzero_2, vknd_2, vsn_2, vvar_3, vzero_3, vknd_3, vsn_3, vvar_4, vzero_4, vknd_4, vsn_4, vsl_28, vkn_28, vvar_28, vzero_28, vvar_33, vzero_33, vbld_33, vpts_33, vfld_33_0, vfld_33_1, hml]; try simp (disch := omega) only [wrap64]) | (with_reducible refine hK' _ ?_; clear hK' K') | (with_reducible refine hK _ ?_; clear hK K) | (with_reducible first | refine And.intro (And.intro rfl rfl) ?_ | refine And.intro (by omega) ?_) | (with_reducible refine And.intro (fun hg => ?_) (fun hg => ?_) <;> first | simp only [eq_false hg, decide_true, decide_false, and_true, true_and, and_false, false_and, not_true_eq_false, not_false_eq_true] | simp only [eq_true hg, decide_true, decide_false, and_true, true_and, and_false, false_and, not_true_eq_false, not_false_eq_true] | simp only [hg, decide_true, decide_false, and_true, true_and, and_false, false_and, not_true_eq_false, not_false_eq_true]) | (with_reducible first | refine And.intro rfl (And.intro rfl rfl) | refine thenQ_n ?_ | refine thenQ_exit ?_ | refine thenQ_ret ?_ | refine midQ_ret ?_ | refine midQ_exit ?_ | refine blockQ_same ?_ | refine blockQ_ne (by decide) ?_ | refine blockQ_ret ?_ | refine blockQ_n ?_ | refine AW.exit ?_ | refine AW.block ?_ | refine AW.cond_t rfl ?_ | refine AW.cond_f rfl ?_ | refine AW.cond_dec rfl (fun hc => ?_) (fun hc => ?_)) | (with_reducible refine AW.cond rfl (fun hc => ?_) (fun hc => ?_) <;> try simp only [Bool.not_eq_eq_eq_not, Bool.not_true, Bool.not_false, decide_eq_true_eq, decide_eq_false_iff_not] at hc) | (with_reducible first | refine AW.seq ?_ | refine AW.skip ?_ | refine AW.ret ?_ | refine And.intro ?_ ?_) | (with_reducible intro hg; first | simp only [eq_false hg, decide_true, decide_false, and_true, true_and, and_false, false_and, not_true_eq_false, not_false_eq_true] | simp only [eq_true hg, decide_true, decide_false, and_true, true_and, and_false, false_and, not_true_eq_false, not_false_eq_true]) | (with_reducible refine retQ_drop ?_; simp only [vRes, packRes, vLoad, vPart, lk, cond, Nat.reduceBEq, get_loc, getD_zero, getD_succ, true_and, List.length_cons, List.length_nil, Nat.reduceAdd, Nat.reduceLT, Nat.reduceLeDiff, List.take_succ_cons, List.take_zero, List.drop_succ_cons, List.drop_zero, vvar_2, vzero_2, vknd_2, vsn_2, vvar_3, vzero_3, vknd_3, vsn_3, vvar_4, vzero_4, vknd_4, vsn_4, vsl_28, vkn_28, vvar_28, vzero_28, vvar_33, vzero_33, vbld_33, vpts_33, vfld_33_0, vfld_33_1]) )
      all_goals try (exfalso; omega)
      exact ⟨_, _, FinOk.drop hB (Pl.ids (by (repeat' (first | exact Pl.v _ | exact Pl.junk | exact Pl.rd rfl _ | exact pl_nil | refine pl_cons ?_ ?_ | refine Pl.agg ?_ | refine Pl.tup ?_ | refine Pl.rp ?_ | refine Pl.fn ?_)); (first | done | fail))), rfl, rfl⟩
theorem mark64n_ac (k : Int) (H : List ABox) : AC Try.prog 15 [.v (.slice none 0 0), .v (.int .i64 (k))] H (fun r H' => r = .v (.int .i64 (k)) ∧ H' = H) := by
  refine AC.enter envOk Try.func15 rfl (by decide) Try.ntmps15 Try.results15 (by simp) fun hB => ?_
  repeat' (first | (with_reducible first | refine AW.sreg envOk fun K hK => ?_ | refine AW.region envOk fun K hK => ?_ | refine vcL_nil ?_) | (with_reducible (first | refine vcL_cons fun K' hK' => ?_); simp only [isC, Bool.false_or, Bool.or_true, ↓reduceDIte, List.take_length, Nat.le_refl, List.drop_zero, vGuard, undef, Bool.not_eq_eq_eq_not, dstOk, vcOp, vcF, isPure, putS, vcCall, St.ev, St.put, lk, AVal.ofVal, initS, Nat.reduceLT, true_and, and_true, vBin, vPart, vLoad, vStore, vIdxA, vFldA, vLen, AVal.flat, AVal.cell, cellsOk, setRange, ETy.enc, ETy.dec, ETy.sz, ETy.d, cond, Nat.reduceBEq, Nat.reduceAdd, Int.toNat_natCast, List.length_set, List.length_append, List.length_replicate, List.length_take, Nat.reduceSub, Nat.reduceEqDiff, get_loc, setBox_loc, next_eq, List.length_cons, List.length_nil, List.map_cons, List.map_nil, List.append_nil, List.nil_append, List.cons_append, List.set_cons_zero, List.set_cons_succ, getD_zero, getD_succ, List.getElem?_cons_succ, List.getElem?_cons_zero, List.take_succ_cons, List.take_zero, List.drop_succ_cons, List.all_cons, List.all_nil, Bool.and_true, Bool.true_and, Option.bind_some, Option.map_some, Option.map_none, decide_eq_true_eq, decide_eq_false_iff_not, ne_eq, Bool.not_eq_true, Bool.not_eq_false, Decidable.not_not, not_true_eq_false, not_false_eq_true, forall_const, false_implies, Bool.true_eq_false, Bool.false_eq_true, reduceCtorEq, decide_true, decide_false, Bool.not_true, Bool.not_false, if_true, if_false, Nat.zero_add, Nat.lt_irrefl, Value.oneCell', gt_iff_lt, Nat.reduceLeDiff, Nat.lt_add_one, vvar_2, vzero_2, vknd_2, vsn_2, vvar_3, vzero_3, vknd_3, vsn_3, vvar_4, vzero_4, vknd_4, vsn_4, vsl_28, vkn_28, vvar_28, vzero_28, vvar_33, vzero_33, vbld_33, vpts_33, vfld_33_0, vfld_33_1]; try simp (disch := omega) only [wrap64]) | (with_reducible refine hK' _ ?_; clear hK' K') | (with_reducible refine hK _ ?_; clear hK K) | (with_reducible first | refine And.intro (And.intro rfl rfl) ?_ | refine And.intro (by omega) ?_) | (with_reducible refine And.intro (fun hg => ?_) (fun hg => ?_) <;> first | simp only [eq_false hg, decide_true, decide_false, and_true, true_and, and_false, false_and, not_true_eq_false, not_false_eq_true] | simp only [eq_true hg, decide_true, decide_false, and_true, true_and, and_false, false_and, not_true_eq_false, not_false_eq_true] | simp only [hg, decide_true, decide_false, and_true, true_and, and_false, false_and, not_true_eq_false, not_false_eq_true]) | (with_reducible first | refine And.intro rfl (And.intro rfl rfl) | refine thenQ_n ?_ | refine thenQ_exit ?_ | refine thenQ_ret ?_ | refine midQ_ret ?_ | refine midQ_exit ?_ | refine blockQ_same ?_ | refine blockQ_ne (by decide) ?_ | refine blockQ_ret ?_ | refine blockQ_n ?_ | refine AW.exit ?_ | refine AW.block ?_ | refine AW.cond_t rfl ?_ | refine AW.cond_f rfl ?_ | refine AW.cond_dec rfl (fun hc => ?_) (fun hc => ?_)) | (with_reducible refine AW.cond rfl (fun hc => ?_) (fun hc => ?_) <;> try simp only [Bool.not_eq_eq_eq_not, Bool.not_true, Bool.not_false, decide_eq_true_eq, decide_eq_false_iff_not] at hc) | (with_reducible first | refine AW.seq ?_ | refine AW.skip ?_ | refine AW.ret ?_ | refine And.intro ?_ ?_) | (with_reducible intro hg; first | simp only [eq_false hg, decide_true, decide_false, and_true, true_and, and_false, false_and, not_true_eq_false, not_false_eq_true] | simp only [eq_true hg, decide_true, decide_false, and_true, true_and, and_false, false_and, not_true_eq_false, not_false_eq_true]) | (with_reducible refine retQ_drop ?_; simp only [vRes, packRes, vLoad, vPart, lk, cond, Nat.reduceBEq, get_loc, getD_zero, getD_succ, true_and, List.length_cons, List.length_nil, Nat.reduceAdd, Nat.reduceLT, Nat.reduceLeDiff, List.take_succ_cons, List.take_zero, List.drop_succ_cons, List.drop_zero, vvar_2, vzero_2, vknd_2, vsn_2, vvar_3, vzero_3, vknd_3, vsn_3, vvar_4, vzero_4, vknd_4, vsn_4, vsl_28, vkn_28, vvar_28, vzero_28, vvar_33, vzero_33, vbld_33, vpts_33, vfld_33_0, vfld_33_1]) )
  refine AW.loop (fun i : Nat => (⟨27, [(0, .v (.slice none 0 0)), (1, .v (.int .i64 (k))), (5, .v (.int .i64 (0)))], H, []⟩ : St)) (fun _ => True) (fun i => 0) 0 trivial (Weak.slots (by repeat' first | exact trivial | exact ⟨rfl, trivial⟩ | refine ⟨rfl, ?_⟩)) ?_
  intro i _
  repeat' (first | (with_reducible first | refine AW.sreg envOk fun K hK => ?_ | refine AW.region envOk fun K hK => ?_ | refine vcL_nil ?_) | (with_reducible (first | refine vcL_cons fun K' hK' => ?_); simp only [isC, Bool.false_or, Bool.or_true, ↓reduceDIte, List.take_length, Nat.le_refl, List.drop_zero, vGuard, undef, Bool.not_eq_eq_eq_not, dstOk, vcOp, vcF, isPure, putS, vcCall, St.ev, St.put, lk, AVal.ofVal, initS, Nat.reduceLT, true_and, and_true, vBin, vPart, vLoad, vStore, vIdxA, vFldA, vLen, AVal.flat, AVal.cell, cellsOk, setRange, ETy.enc, ETy.dec, ETy.sz, ETy.d, cond, Nat.reduceBEq, Nat.reduceAdd, Int.toNat_natCast, List.length_set, List.length_append, List.length_replicate, List.length_take, Nat.reduceSub, Nat.reduceEqDiff, get_loc, setBox_loc, next_eq, List.length_cons, List.length_nil, List.map_cons, List.map_nil, List.append_nil, List.nil_append, List.cons_append, List.set_cons_zero, List.set_cons_succ, getD_zero, getD_succ, List.getElem?_cons_succ, List.getElem?_cons_zero, List.take_succ_cons, List.take_zero, List.drop_succ_cons, List.all_cons, List.all_nil, Bool.and_true, Bool.true_and, Option.bind_some, Option.map_some, Option.map_none, decide_eq_true_eq, decide_eq_false_iff_not, ne_eq, Bool.not_eq_true, Bool.not_eq_false, Decidable.not_not, not_true_eq_false, not_false_eq_true, forall_const, false_implies, Bool.true_eq_false, Bool.false_eq_true, reduceCtorEq, decide_true, decide_false, Bool.not_true, Bool.not_false, if_true, if_false, Nat.zero_add, Nat.lt_irrefl, Value.oneCell', gt_iff_lt, Nat.reduceLeDiff, Nat.lt_add_one, vvar_2, vzero_2, vknd_2, vsn_2, vvar_3, vzero_3, vknd_3, vsn_3, vvar_4, vzero_4, vknd_4, vsn_4, vsl_28, vkn_28, vvar_28, vzero_28, vvar_33, vzero_33, vbld_33, vpts_33, vfld_33_0, vfld_33_1]; try simp (disch := omega) only [wrap64]) | (with_reducible refine hK' _ ?_; clear hK' K') | (with_reducible refine hK _ ?_; clear hK K) | (with_reducible first | refine And.intro (And.intro rfl rfl) ?_ | refine And.intro (by omega) ?_) | (with_reducible refine And.intro (fun hg => ?_) (fun hg => ?_) <;> first | simp only [eq_false hg, decide_true, decide_false, and_true, true_and, and_false, false_and, not_true_eq_false, not_false_eq_true] | simp only [eq_true hg, decide_true, decide_false, and_true, true_and, and_false, false_and, not_true_eq_false, not_false_eq_true] | simp only [hg, decide_true, decide_false, and_true, true_and, and_false, false_and, not_true_eq_false, not_false_eq_true]) | (with_reducible first | refine And.intro rfl (And.intro rfl rfl) | refine thenQ_n ?_ | refine thenQ_exit ?_ | refine thenQ_ret ?_ | refine midQ_ret ?_ | refine midQ_exit ?_ | refine blockQ_same ?_ | refine blockQ_ne (by decide) ?_ | refine blockQ_ret ?_ | refine blockQ_n ?_ | refine AW.exit ?_ | refine AW.block ?_ | refine AW.cond_t rfl ?_ | refine AW.cond_f rfl ?_ | refine AW.cond_dec rfl (fun hc => ?_) (fun hc => ?_)) | (with_reducible refine AW.cond rfl (fun hc => ?_) (fun hc => ?_) <;> try simp only [Bool.not_eq_eq_eq_not, Bool.not_true, Bool.not_false, decide_eq_true_eq, decide_eq_false_iff_not] at hc) | (with_reducible first | refine AW.seq ?_ | refine AW.skip ?_ | refine AW.ret ?_ | refine And.intro ?_ ?_) | (with_reducible intro hg; first | simp only [eq_false hg, decide_true, decide_false, and_true, true_and, and_false, false_and, not_true_eq_false, not_false_eq_true] | simp only [eq_true hg, decide_true, decide_false, and_true, true_and, and_false, false_and, not_true_eq_false, not_false_eq_true]) | (with_reducible refine retQ_drop ?_; simp only [vRes, packRes, vLoad, vPart, lk, cond, Nat.reduceBEq, get_loc, getD_zero, getD_succ, true_and, List.length_cons, List.length_nil, Nat.reduceAdd, Nat.reduceLT, Nat.reduceLeDiff, List.take_succ_cons, List.take_zero, List.drop_succ_cons, List.drop_zero, vvar_2, vzero_2, vknd_2, vsn_2, vvar_3, vzero_3, vknd_3, vsn_3, vvar_4, vzero_4, vknd_4, vsn_4, vsl_28, vkn_28, vvar_28, vzero_28, vvar_33, vzero_33, vbld_33, vpts_33, vfld_33_0, vfld_33_1]) )
  all_goals first | exact ⟨_, _, FinOk.drop hB (Pl.ids (by (repeat' (first | exact Pl.v _ | exact Pl.junk | exact Pl.rd rfl _ | exact pl_nil | refine pl_cons ?_ ?_ | refine Pl.agg ?_ | refine Pl.tup ?_ | refine Pl.rp ?_ | refine Pl.fn ?_)); (first | done | fail))), rfl, rfl⟩ | (exfalso; omega)
theorem held65n_ac (k : Int) (H : List ABox) : AC Try.prog 16 [.rd .pt ([]), .v (.int .i64 (k))] H (fun r H' => r = .v (.int .i64 (k)) ∧ H' = H) := by
  refine AC.enter envOk Try.func16 rfl (by decide) Try.ntmps16 Try.results16 (by simp) fun hB => ?_
  repeat' (first | (with_reducible first | refine AW.sreg envOk fun K hK => ?_ | refine AW.region envOk fun K hK => ?_ | refine vcL_nil ?_) | (with_reducible (first | refine vcL_cons fun K' hK' => ?_); simp only [isC, Bool.false_or, Bool.or_true, ↓reduceDIte, List.take_length, Nat.le_refl, List.drop_zero, vGuard, undef, Bool.not_eq_eq_eq_not, dstOk, vcOp, vcF, isPure, putS, vcCall, St.ev, St.put, lk, AVal.ofVal, initS, Nat.reduceLT, true_and, and_true, vBin, vPart, vLoad, vIdxA, vFldA, vLen, AVal.flat, AVal.cell, cellsOk, setRange, ETy.enc, ETy.dec, ETy.sz, ETy.d, cond, Nat.reduceBEq, Nat.reduceAdd, Int.toNat_natCast, List.length_set, List.length_append, List.length_replicate, List.length_take, Nat.reduceSub, Nat.reduceEqDiff, get_loc, setBox_loc, next_eq, List.length_cons, List.length_nil, List.map_cons, List.map_nil, List.append_nil, List.nil_append, List.cons_append, List.set_cons_zero, List.set_cons_succ, getD_zero, getD_succ, List.getElem?_cons_succ, List.getElem?_cons_zero, List.take_succ_cons, List.take_zero, List.drop_succ_cons, List.all_cons, List.all_nil, Bool.and_true, Bool.true_and, Option.bind_some, Option.map_some, Option.map_none, decide_eq_true_eq, decide_eq_false_iff_not, ne_eq, Bool.not_eq_true, Bool.not_eq_false, Decidable.not_not, not_true_eq_false, not_false_eq_true, forall_const, false_implies, Bool.true_eq_false, Bool.false_eq_true, reduceCtorEq, decide_true, decide_false, Bool.not_true, Bool.not_false, if_true, if_false, Nat.zero_add, Nat.lt_irrefl, Value.oneCell', gt_iff_lt, Nat.reduceLeDiff, Nat.lt_add_one, vvar_2, vzero_2, vknd_2, vsn_2, vvar_3, vzero_3, vknd_3, vsn_3, vvar_4, vzero_4, vknd_4, vsn_4, vsl_28, vkn_28, vvar_28, vzero_28, vvar_33, vzero_33, vbld_33, vpts_33, vfld_33_0, vfld_33_1]; try simp (disch := omega) only [wrap64]) | (with_reducible refine hK' _ ?_; clear hK' K') | (with_reducible refine hK _ ?_; clear hK K) | (with_reducible first | refine And.intro (And.intro rfl rfl) ?_ | refine And.intro (by omega) ?_) | (with_reducible refine And.intro (fun hg => ?_) (fun hg => ?_) <;> first | simp only [eq_false hg, decide_true, decide_false, and_true, true_and, and_false, false_and, not_true_eq_false, not_false_eq_true] | simp only [eq_true hg, decide_true, decide_false, and_true, true_and, and_false, false_and, not_true_eq_false, not_false_eq_true] | simp only [hg, decide_true, decide_false, and_true, true_and, and_false, false_and, not_true_eq_false, not_false_eq_true]) | (with_reducible first | refine And.intro rfl (And.intro rfl rfl) | refine thenQ_n ?_ | refine thenQ_exit ?_ | refine thenQ_ret ?_ | refine midQ_ret ?_ | refine midQ_exit ?_ | refine blockQ_same ?_ | refine blockQ_ne (by decide) ?_ | refine blockQ_ret ?_ | refine blockQ_n ?_ | refine AW.exit ?_ | refine AW.block ?_ | refine AW.cond_t rfl ?_ | refine AW.cond_f rfl ?_ | refine AW.cond_dec rfl (fun hc => ?_) (fun hc => ?_)) | (with_reducible refine AW.cond rfl (fun hc => ?_) (fun hc => ?_) <;> try simp only [Bool.not_eq_eq_eq_not, Bool.not_true, Bool.not_false, decide_eq_true_eq, decide_eq_false_iff_not] at hc) | (with_reducible first | refine AW.seq ?_ | refine AW.skip ?_ | refine AW.ret ?_ | refine And.intro ?_ ?_) | (with_reducible intro hg; first | simp only [eq_false hg, decide_true, decide_false, and_true, true_and, and_false, false_and, not_true_eq_false, not_false_eq_true] | simp only [eq_true hg, decide_true, decide_false, and_true, true_and, and_false, false_and, not_true_eq_false, not_false_eq_true]) | (with_reducible refine retQ_drop ?_; simp only [vRes, packRes, vLoad, vPart, lk, cond, Nat.reduceBEq, get_loc, getD_zero, getD_succ, true_and, List.length_cons, List.length_nil, Nat.reduceAdd, Nat.reduceLT, Nat.reduceLeDiff, List.take_succ_cons, List.take_zero, List.drop_succ_cons, List.drop_zero, vvar_2, vzero_2, vknd_2, vsn_2, vvar_3, vzero_3, vknd_3, vsn_3, vvar_4, vzero_4, vknd_4, vsn_4, vsl_28, vkn_28, vvar_28, vzero_28, vvar_33, vzero_33, vbld_33, vpts_33, vfld_33_0, vfld_33_1]) )
  refine AW.loop (fun i : Nat => (⟨31, [(0, .rd .pt ([])), (1, .v (.int .i64 (k))), (5, .v (.int .i64 (0)))], H, []⟩ : St)) (fun _ => True) (fun i => 0) 0 trivial (Weak.slots (by repeat' first | exact trivial | exact ⟨rfl, trivial⟩ | refine ⟨rfl, ?_⟩)) ?_
  intro i _
  repeat' (first | (with_reducible first | refine AW.sreg envOk fun K hK => ?_ | refine AW.region envOk fun K hK => ?_ | refine vcL_nil ?_) | (with_reducible (first | refine vcL_cons fun K' hK' => ?_); simp only [isC, Bool.false_or, Bool.or_true, ↓reduceDIte, List.take_length, Nat.le_refl, List.drop_zero, vGuard, undef, Bool.not_eq_eq_eq_not, dstOk, vcOp, vcF, isPure, putS, vcCall, St.ev, St.put, lk, AVal.ofVal, initS, Nat.reduceLT, true_and, and_true, vBin, vPart, vLoad, vIdxA, vFldA, vLen, AVal.flat, AVal.cell, cellsOk, setRange, ETy.enc, ETy.dec, ETy.sz, ETy.d, cond, Nat.reduceBEq, Nat.reduceAdd, Int.toNat_natCast, List.length_set, List.length_append, List.length_replicate, List.length_take, Nat.reduceSub, Nat.reduceEqDiff, get_loc, setBox_loc, next_eq, List.length_cons, List.length_nil, List.map_cons, List.map_nil, List.append_nil, List.nil_append, List.cons_append, List.set_cons_zero, List.set_cons_succ, getD_zero, getD_succ, List.getElem?_cons_succ, List.getElem?_cons_zero, List.take_succ_cons, List.take_zero, List.drop_succ_cons, List.all_cons, List.all_nil, Bool.and_true, Bool.true_and, Option.bind_some, Option.map_some, Option.map_none, decide_eq_true_eq, decide_eq_false_iff_not, ne_eq, Bool.not_eq_true, Bool.not_eq_false, Decidable.not_not, not_true_eq_false, not_false_eq_true, forall_const, false_implies, Bool.true_eq_false, Bool.false_eq_true, reduceCtorEq, decide_true, decide_false, Bool.not_true, Bool.not_false, if_true, if_false, Nat.zero_add, Nat.lt_irrefl, Value.oneCell', gt_iff_lt, Nat.reduceLeDiff, Nat.lt_add_one, vvar_2, vzero_2, vknd_2, vsn_2, vvar_3, vzero_3, vknd_3, vsn_3, vvar_4, vzero_4, vknd_4, vsn_4, vsl_28, vkn_28, vvar_28, vzero_28, vvar_33, vzero_33, vbld_33, vpts_33, vfld_33_0, vfld_33_1]; try simp (disch := omega) only [wrap64]) | (with_reducible refine hK' _ ?_; clear hK' K') | (with_reducible refine hK _ ?_; clear hK K) | (with_reducible first | refine And.intro (And.intro rfl rfl) ?_ | refine And.intro (by omega) ?_) | (with_reducible refine And.intro (fun hg => ?_) (fun hg => ?_) <;> first | simp only [eq_false hg, decide_true, decide_false, and_true, true_and, and_false, false_and, not_true_eq_false, not_false_eq_true] | simp only [eq_true hg, decide_true, decide_false, and_true, true_and, and_false, false_and, not_true_eq_false, not_false_eq_true] | simp only [hg, decide_true, decide_false, and_true, true_and, and_false, false_and, not_true_eq_false, not_false_eq_true]) | (with_reducible first | refine And.intro rfl (And.intro rfl rfl) | refine thenQ_n ?_ | refine thenQ_exit ?_ | refine thenQ_ret ?_ | refine midQ_ret ?_ | refine midQ_exit ?_ | refine blockQ_same ?_ | refine blockQ_ne (by decide) ?_ | refine blockQ_ret ?_ | refine blockQ_n ?_ | refine AW.exit ?_ | refine AW.block ?_ | refine AW.cond_t rfl ?_ | refine AW.cond_f rfl ?_ | refine AW.cond_dec rfl (fun hc => ?_) (fun hc => ?_)) | (with_reducible refine AW.cond rfl (fun hc => ?_) (fun hc => ?_) <;> try simp only [Bool.not_eq_eq_eq_not, Bool.not_true, Bool.not_false, decide_eq_true_eq, decide_eq_false_iff_not] at hc) | (with_reducible first | refine AW.seq ?_ | refine AW.skip ?_ | refine AW.ret ?_ | refine And.intro ?_ ?_) | (with_reducible intro hg; first | simp only [eq_false hg, decide_true, decide_false, and_true, true_and, and_false, false_and, not_true_eq_false, not_false_eq_true] | simp only [eq_true hg, decide_true, decide_false, and_true, true_and, and_false, false_and, not_true_eq_false, not_false_eq_true]) | (with_reducible refine retQ_drop ?_; simp only [vRes, packRes, vLoad, vPart, lk, cond, Nat.reduceBEq, get_loc, getD_zero, getD_succ, true_and, List.length_cons, List.length_nil, Nat.reduceAdd, Nat.reduceLT, Nat.reduceLeDiff, List.take_succ_cons, List.take_zero, List.drop_succ_cons, List.drop_zero, vvar_2, vzero_2, vknd_2, vsn_2, vvar_3, vzero_3, vknd_3, vsn_3, vvar_4, vzero_4, vknd_4, vsn_4, vsl_28, vkn_28, vvar_28, vzero_28, vvar_33, vzero_33, vbld_33, vpts_33, vfld_33_0, vfld_33_1]) )
  all_goals first | exact ⟨_, _, FinOk.drop hB (Pl.ids (by (repeat' (first | exact Pl.v _ | exact Pl.junk | exact Pl.rd rfl _ | exact pl_nil | refine pl_cons ?_ ?_ | refine Pl.agg ?_ | refine Pl.tup ?_ | refine Pl.rp ?_ | refine Pl.fn ?_)); (first | done | fail))), rfl, rfl⟩ | (exfalso; omega)
theorem eqPoints_ac (xs ys : List (Int × Int)) (hx : xs.length ≤ 1000000000) (hy : ys.length ≤ 1000000000) (H : List ABox) : AC Try.prog 12 [.rd .pt xs, .rd .pt ys] H (fun r H' => r = .v (.bool (decide (xs = ys))) ∧ H' = H) := by
  refine AC.enter envOk Try.func12 rfl (by decide) Try.ntmps12 Try.results12 (by simp) fun hB => ?_
  repeat' (first | (with_reducible first | refine AW.sreg envOk fun K hK => ?_ | refine AW.region envOk fun K hK => ?_) | (with_reducible refine AW.d0reg envOk mixed ?_ ?_ fun K hK => ?_; (first | rfl | exact base_len | exact base_len0); kernel_rfl) | (with_reducible refine AW.d0 envOk mixed ?_ ?_ fun K hK => ?_; (first | rfl | exact base_len | exact base_len0); kernel_rfl) | (with_reducible first | refine vcD_nil ?_ | refine vcL_nil ?_) | (with_reducible (first | refine vcD_cons fun K' hK' => ?_ | refine vcL_cons fun K' hK' => ?_); simp only [isC, Bool.false_or, Bool.or_true, ↓reduceDIte, List.take_length, Nat.le_refl, List.drop_zero, vGuard, undef, Bool.not_eq_eq_eq_not, dstOk, vcOp, vcF, isPure, putS, vcCall, St.ev, St.put, lk, AVal.ofVal, initS, Nat.reduceLT, true_and, and_true, vBin, vUn, vPart, vLoad, vIdxA, vLen, AVal.flat, AVal.cell, cellsOk, setRange, ETy.enc, ETy.dec, ETy.sz, ETy.d, cond, Nat.reduceBEq, Nat.reduceAdd, Int.toNat_natCast, List.length_set, List.length_append, List.length_replicate, List.length_take, Nat.reduceSub, Nat.reduceEqDiff, get_loc, setBox_loc, next_eq, List.length_cons, List.length_nil, List.map_cons, List.map_nil, List.append_nil, List.nil_append, List.cons_append, List.set_cons_zero, List.set_cons_succ, getD_zero, getD_succ, List.getElem?_cons_succ, List.getElem?_cons_zero, List.take_succ_cons, List.take_zero, List.drop_succ_cons, List.all_cons, List.all_nil, Bool.and_true, Bool.true_and, Option.bind_some, Option.map_some, Option.map_none, decide_eq_true_eq, decide_eq_false_iff_not, ne_eq, Bool.not_eq_true, Bool.not_eq_false, Decidable.not_not, not_true_eq_false, not_false_eq_true, forall_const, false_implies, Bool.true_eq_false, Bool.false_eq_true, reduceCtorEq, decide_true, decide_false, Bool.not_true, Bool.not_false, if_true, if_false, Nat.zero_add, Nat.lt_irrefl, Value.oneCell', gt_iff_lt, Nat.reduceLeDiff, Nat.lt_add_one, vvar_3, vzero_3, vknd_3, vsn_3, vvar_4, vzero_4, vknd_4, vsn_4, vsl_28, vkn_28, vvar_28, vzero_28, vvar_33, vzero_33, vbld_33, vpts_33]; try simp (disch := omega) only [wrap64]) | (with_reducible refine hK' _ ?_; clear hK' K') | (with_reducible refine hK _ ?_; clear hK K) | (with_reducible first | refine And.intro (And.intro rfl rfl) ?_ | refine And.intro (by omega) ?_) | (with_reducible refine And.intro (fun hg => ?_) (fun hg => ?_) <;> first | simp only [eq_false hg, decide_true, decide_false, and_true, true_and, and_false, false_and, not_true_eq_false, not_false_eq_true] | simp only [eq_true hg, decide_true, decide_false, and_true, true_and, and_false, false_and, not_true_eq_false, not_false_eq_true] | simp only [hg, decide_true, decide_false, and_true, true_and, and_false, false_and, not_true_eq_false, not_false_eq_true]) | (with_reducible first | refine And.intro rfl (And.intro rfl rfl) | refine thenQ_n ?_ | refine thenQ_exit ?_ | refine thenQ_ret ?_ | refine midQ_ret ?_ | refine midQ_exit ?_ | refine blockQ_same ?_ | refine blockQ_ne (by decide) ?_ | refine blockQ_ret ?_ | refine blockQ_n ?_ | refine AW.exit ?_ | refine AW.block ?_ | refine AW.cond_t rfl ?_ | refine AW.cond_f rfl ?_ | refine AW.cond_dec rfl (fun hc => ?_) (fun hc => ?_)) | (with_reducible refine AW.cond rfl (fun hc => ?_) (fun hc => ?_) <;> try simp only [Bool.not_eq_eq_eq_not, Bool.not_true, Bool.not_false, decide_eq_true_eq, decide_eq_false_iff_not] at hc) | (with_reducible first | refine AW.seq ?_ | refine AW.skip ?_ | refine AW.ret ?_ | refine And.intro ?_ ?_) | (with_reducible intro hg; first | simp only [eq_false hg, decide_true, decide_false, and_true, true_and, and_false, false_and, not_true_eq_false, not_false_eq_true] | simp only [eq_true hg, decide_true, decide_false, and_true, true_and, and_false, false_and, not_true_eq_false, not_false_eq_true]) | (with_reducible refine retQ_drop ?_; simp only [vRes, packRes, vLoad, vPart, lk, cond, Nat.reduceBEq, get_loc, getD_zero, getD_succ, true_and, List.length_cons, List.length_nil, Nat.reduceAdd, Nat.reduceLT, Nat.reduceLeDiff, List.take_succ_cons, List.take_zero, List.drop_succ_cons, List.drop_zero, vvar_3, vzero_3, vknd_3, vsn_3, vvar_4, vzero_4, vknd_4, vsn_4, vsl_28, vkn_28, vvar_28, vzero_28, vvar_33, vzero_33, vbld_33, vpts_33]) )
  · refine ⟨_, _, FinOk.drop hB (.v _), ?_, rfl⟩
    simp; rintro rfl; exact hc rfl
  refine AW.loop (fun i : Nat => (⟨27, [(5, .v (.int .i64 (i : Int))), (1, .rd .pt ys), (0, .rd .pt xs)], H, []⟩ : St)) (fun i => i ≤ xs.length ∧ xs.take i = ys.take i) (fun i => xs.length - i) 0 ⟨Nat.zero_le _, rfl⟩ ?_ ?_
  · exact Weak.slots ⟨rfl, rfl, rfl, trivial⟩
  · intro i hi
    repeat' (first | (with_reducible first | refine AW.sreg envOk fun K hK => ?_ | refine AW.region envOk fun K hK => ?_) | (with_reducible refine AW.d0reg envOk mixed ?_ ?_ fun K hK => ?_; (first | rfl | exact base_len | exact base_len0); kernel_rfl) | (with_reducible refine AW.d0 envOk mixed ?_ ?_ fun K hK => ?_; (first | rfl | exact base_len | exact base_len0); kernel_rfl) | (with_reducible first | refine vcD_nil ?_ | refine vcL_nil ?_) | (with_reducible (first | refine vcD_cons fun K' hK' => ?_ | refine vcL_cons fun K' hK' => ?_); simp only [isC, Bool.false_or, Bool.or_true, ↓reduceDIte, List.take_length, Nat.le_refl, List.drop_zero, vGuard, undef, Bool.not_eq_eq_eq_not, dstOk, vcOp, vcF, isPure, putS, vcCall, St.ev, St.put, lk, AVal.ofVal, initS, Nat.reduceLT, true_and, and_true, vBin, vUn, vPart, vLoad, vIdxA, vLen, AVal.flat, AVal.cell, cellsOk, setRange, ETy.enc, ETy.dec, ETy.sz, ETy.d, cond, Nat.reduceBEq, Nat.reduceAdd, Int.toNat_natCast, List.length_set, List.length_append, List.length_replicate, List.length_take, Nat.reduceSub, Nat.reduceEqDiff, get_loc, setBox_loc, next_eq, List.length_cons, List.length_nil, List.map_cons, List.map_nil, List.append_nil, List.nil_append, List.cons_append, List.set_cons_zero, List.set_cons_succ, getD_zero, getD_succ, List.getElem?_cons_succ, List.getElem?_cons_zero, List.take_succ_cons, List.take_zero, List.drop_succ_cons, List.all_cons, List.all_nil, Bool.and_true, Bool.true_and, Option.bind_some, Option.map_some, Option.map_none, decide_eq_true_eq, decide_eq_false_iff_not, ne_eq, Bool.not_eq_true, Bool.not_eq_false, Decidable.not_not, not_true_eq_false, not_false_eq_true, forall_const, false_implies, Bool.true_eq_false, Bool.false_eq_true, reduceCtorEq, decide_true, decide_false, Bool.not_true, Bool.not_false, if_true, if_false, Nat.zero_add, Nat.lt_irrefl, Value.oneCell', gt_iff_lt, Nat.reduceLeDiff, Nat.lt_add_one, vvar_3, vzero_3, vknd_3, vsn_3, vvar_4, vzero_4, vknd_4, vsn_4, vsl_28, vkn_28, vvar_28, vzero_28, vvar_33, vzero_33, vbld_33, vpts_33]; try simp (disch := omega) only [wrap64]) | (with_reducible refine hK' _ ?_; clear hK' K') | (with_reducible refine hK _ ?_; clear hK K) | (with_reducible first | refine vcC_pure (eqPt_ac (xs.getD i (0, 0)) (ys.getD i (0, 0)) _) ?_ | refine vCall_pure (eqPt_ac (xs.getD i (0, 0)) (ys.getD i (0, 0)) _) ?_ | refine And.intro (And.intro rfl rfl) ?_ | refine And.intro (by omega) ?_) | (with_reducible refine And.intro (fun hg => ?_) (fun hg => ?_) <;> first | simp only [eq_false hg, decide_true, decide_false, and_true, true_and, and_false, false_and, not_true_eq_false, not_false_eq_true] | simp only [eq_true hg, decide_true, decide_false, and_true, true_and, and_false, false_and, not_true_eq_false, not_false_eq_true] | simp only [hg, decide_true, decide_false, and_true, true_and, and_false, false_and, not_true_eq_false, not_false_eq_true]) | (with_reducible first | refine And.intro rfl (And.intro rfl rfl) | refine thenQ_n ?_ | refine thenQ_exit ?_ | refine thenQ_ret ?_ | refine midQ_ret ?_ | refine midQ_exit ?_ | refine blockQ_same ?_ | refine blockQ_ne (by decide) ?_ | refine blockQ_ret ?_ | refine blockQ_n ?_ | refine AW.exit ?_ | refine AW.block ?_ | refine AW.cond_t rfl ?_ | refine AW.cond_f rfl ?_ | refine AW.cond_dec rfl (fun hc => ?_) (fun hc => ?_)) | (with_reducible refine AW.cond rfl (fun hc => ?_) (fun hc => ?_) <;> try simp only [Bool.not_eq_eq_eq_not, Bool.not_true, Bool.not_false, decide_eq_true_eq, decide_eq_false_iff_not] at hc) | (with_reducible first | refine AW.seq ?_ | refine AW.skip ?_ | refine AW.ret ?_ | refine And.intro ?_ ?_) | (with_reducible intro hg; first | simp only [eq_false hg, decide_true, decide_false, and_true, true_and, and_false, false_and, not_true_eq_false, not_false_eq_true] | simp only [eq_true hg, decide_true, decide_false, and_true, true_and, and_false, false_and, not_true_eq_false, not_false_eq_true]) | (with_reducible refine retQ_drop ?_; simp only [vRes, packRes, vLoad, vPart, lk, cond, Nat.reduceBEq, get_loc, getD_zero, getD_succ, true_and, List.length_cons, List.length_nil, Nat.reduceAdd, Nat.reduceLT, Nat.reduceLeDiff, List.take_succ_cons, List.take_zero, List.drop_succ_cons, List.drop_zero, vvar_3, vzero_3, vknd_3, vsn_3, vvar_4, vzero_4, vknd_4, vsn_4, vsl_28, vkn_28, vvar_28, vzero_28, vvar_33, vzero_33, vbld_33, vpts_33]) )
    · refine ⟨_, _, FinOk.drop hB (.v _), ?_, rfl⟩
      simp; rintro rfl; exact hc rfl
    · refine ⟨i + 1, ⟨by omega, ?_⟩, by omega, Weak.slots ⟨rfl, rfl, rfl, trivial⟩⟩
      rw [take_snoc (by omega), take_snoc (by omega), hi.2, show xs.getD i (0, 0) = ys.getD i (0, 0) from hc]
    · refine ⟨_, _, FinOk.drop hB (.v _), ?_, rfl⟩
      have h1 : i = xs.length := by omega
      have h2 : i = ys.length := by omega
      have h3 := hi.2
      rw [List.take_of_length_le (by omega), List.take_of_length_le (by omega)] at h3
      simp [h3]
end Go.Proofs.Ytfkohliggbajkaa
end
section
set_option linter.unusedSimpArgs false
set_option linter.unusedVariables false
set_option maxHeartbeats 2000000
namespace Go.Proofs.Ytfkohliggbajkaa
open Go.Eng
theorem ptsTo_len (S : Pt → Prop) (h : Nat) : ∀ x y, (ptsTo S h x y).length ≤ x * h + y := by
  have col : ∀ x, (ptsTo S h x 0).length ≤ x * h → ∀ y, (ptsTo S h x y).length ≤ x * h + y := by
    intro x h0 y
    induction y with
    | zero => exact h0
    | succ y ih =>
      by_cases hs : S ((x : Int), (y : Int))
      · rw [ptsTo_yes hs, List.length_append]; simp; omega
      · rw [ptsTo_no hs]; omega
  intro x
  induction x with
  | zero => intro y; exact col 0 (by rw [ptsTo_zero]; simp) y
  | succ x ih =>
    refine col (x + 1) ?_
    rw [← ptsTo_col, Nat.succ_mul]
    exact ih h
theorem sorted25_ac (m : Mz) (bs : List Bool) (hm : MzOk m) (hl : bs.length = m.length * width m) (H : List ABox) : AC Try.prog 25 [.rp [.rd (.sli .i64) (m)] 0, .rd .bool bs] H
    (fun r H' => r = .sl 2 H.length 0 (ptsTo (Mk m bs) m.length (width m) 0).length ∧ H' = H ++ [.row false .pt (ptsTo (Mk m bs) m.length (width m) 0)]) := by
  obtain ⟨⟨h1, h2⟩, h3, h4⟩ := wid_pos hm
  have hwd : (m.getD 0 []).length = width m := rfl
  have hml : m.length * width m ≤ 12 * 12 := Nat.mul_le_mul h2 h4
  refine AC.enter envOk Try.func25 rfl (by decide) Try.ntmps25 Try.results25 (by simp) fun hB => ?_
  repeat' (first | (with_reducible first | refine AW.sreg envOk fun K hK => ?_ | refine AW.region envOk fun K hK => ?_ | refine vcL_nil ?_) | (with_reducible (first | refine vcL_cons fun K' hK' => ?_); simp only [isC, Bool.false_or, Bool.or_true, vAppend, elems, ↓reduceDIte, List.take_length, Nat.le_refl, List.drop_zero, vGuard, undef, Bool.not_eq_eq_eq_not, dstOk, vcOp, vcF, isPure, putS, vcCall, St.ev, St.put, lk, AVal.ofVal, initS, Nat.reduceLT, true_and, and_true, vBin, vPart, vLoad, vStore, vIdxA, vFldA, vLen, vNil, vAlloc, vBuild, vBuildSl, vSlice, bnd, partsA, fillA, decAll, AVal.flat, AVal.cell, cellsOk, setRange, ETy.enc, ETy.dec, ETy.sz, ETy.d, cond, Nat.reduceBEq, Nat.reduceAdd, Int.toNat_natCast, List.length_set, List.length_append, List.length_replicate, List.length_take, Nat.reduceSub, Nat.reduceEqDiff, get_loc, setBox_loc, next_eq, List.length_cons, List.length_nil, List.map_cons, List.map_nil, List.append_nil, List.nil_append, List.cons_append, List.set_cons_zero, List.set_cons_succ, getD_zero, getD_succ, List.getElem?_cons_succ, List.getElem?_cons_zero, List.take_succ_cons, List.take_zero, List.drop_succ_cons, List.all_cons, List.all_nil, Bool.and_true, Bool.true_and, Option.bind_some, Option.map_some, Option.map_none, decide_eq_true_eq, decide_eq_false_iff_not, ne_eq, Bool.not_eq_true, Bool.not_eq_false, Decidable.not_not, not_true_eq_false, not_false_eq_true, forall_const, false_implies, Bool.true_eq_false, Bool.false_eq_true, reduceCtorEq, decide_true, decide_false, Bool.not_true, Bool.not_false, if_true, if_false, Nat.zero_add, Nat.lt_irrefl, Value.oneCell', gt_iff_lt, Nat.reduceLeDiff, Nat.lt_add_one, vSealSl, vvar_1, vzero_1, vvar_2, vzero_2, vknd_2, vsn_2, vvar_3, vzero_3, vknd_3, vsn_3, vvar_4, vzero_4, vknd_4, vsn_4, vsl_22, vkn_22, vvar_22, vzero_22, vsl_28, vkn_28, vvar_28, vzero_28, vvar_31, vzero_31, vbld_31, vvar_33, vzero_33, vbld_33, vpts_33, vvar_47, vzero_47, vsl_49, vkn_49, vvar_49, vzero_49, vsl_58, vkn_58, vvar_58, vzero_58, vfld_31_0]; try simp (disch := omega) only [wrap64]) | (with_reducible refine hK' _ ?_; clear hK' K') | (with_reducible refine hK _ ?_; clear hK K) | (with_reducible first | refine And.intro (And.intro rfl rfl) ?_ | refine And.intro (by omega) ?_) | (with_reducible refine And.intro (fun hg => ?_) (fun hg => ?_) <;> first | simp only [eq_false hg, decide_true, decide_false, and_true, true_and, and_false, false_and, not_true_eq_false, not_false_eq_true] | simp only [eq_true hg, decide_true, decide_false, and_true, true_and, and_false, false_and, not_true_eq_false, not_false_eq_true] | simp only [hg, decide_true, decide_false, and_true, true_and, and_false, false_and, not_true_eq_false, not_false_eq_true]) | (with_reducible first | refine And.intro rfl (And.intro rfl rfl) | refine thenQ_n ?_ | refine thenQ_exit ?_ | refine thenQ_ret ?_ | refine midQ_ret ?_ | refine midQ_exit ?_ | refine blockQ_same ?_ | refine blockQ_ne (by decide) ?_ | refine blockQ_ret ?_ | refine blockQ_n ?_ | refine AW.exit ?_ | refine AW.block ?_ | refine AW.cond_t rfl ?_ | refine AW.cond_f rfl ?_ | refine AW.cond_dec rfl (fun hc => ?_) (fun hc => ?_)) | (with_reducible refine AW.cond rfl (fun hc => ?_) (fun hc => ?_) <;> try simp only [Bool.not_eq_eq_eq_not, Bool.not_true, Bool.not_false, decide_eq_true_eq, decide_eq_false_iff_not] at hc) | (with_reducible first | refine AW.seq ?_ | refine AW.skip ?_ | refine AW.ret ?_ | refine And.intro ?_ ?_) | (with_reducible intro hg; first | simp only [eq_false hg, decide_true, decide_false, and_true, true_and, and_false, false_and, not_true_eq_false, not_false_eq_true] | simp only [eq_true hg, decide_true, decide_false, and_true, true_and, and_false, false_and, not_true_eq_false, not_false_eq_true]) | (with_reducible refine retQ_drop ?_; simp only [vRes, packRes, vLoad, vPart, lk, cond, Nat.reduceBEq, get_loc, getD_zero, getD_succ, true_and, List.length_cons, List.length_nil, Nat.reduceAdd, Nat.reduceLT, Nat.reduceLeDiff, List.take_succ_cons, List.take_zero, List.drop_succ_cons, List.drop_zero, vvar_1, vzero_1, vvar_2, vzero_2, vknd_2, vsn_2, vvar_3, vzero_3, vknd_3, vsn_3, vvar_4, vzero_4, vknd_4, vsn_4, vsl_22, vkn_22, vvar_22, vzero_22, vsl_28, vkn_28, vvar_28, vzero_28, vvar_31, vzero_31, vbld_31, vvar_33, vzero_33, vbld_33, vpts_33, vvar_47, vzero_47, vsl_49, vkn_49, vvar_49, vzero_49, vsl_58, vkn_58, vvar_58, vzero_58, vfld_31_0]) )
  refine AW.loop (fun x : Nat => (⟨44, [(0, .rp [.rd (.sli .i64) (m)] 0), (1, .rd .bool bs), (5, .sl 2 (H.length + 0) 0 ((ptsTo (Mk m bs) m.length x 0).length)), (6, .v (.int .i64 ((x : Int))))], H, [.row false .pt (ptsTo (Mk m bs) m.length x 0)]⟩ : St)) (fun x => x ≤ width m) (fun x => width m - x) 0 (Nat.zero_le _) ?_ ?_
  · rw [ptsTo_zero]
    exact (Weak.slots (by repeat' first | exact trivial | exact ⟨rfl, trivial⟩ | refine ⟨rfl, ?_⟩))
  intro x hx
  have hpl := ptsTo_len (Mk m bs) m.length x 0
  have hpb : x * m.length ≤ 12 * 12 := Nat.mul_le_mul (by omega) h2
  by_cases hxn : x < width m
  ·
    repeat' (first | (with_reducible first | refine AW.sreg envOk fun K hK => ?_ | refine AW.region envOk fun K hK => ?_ | refine vcL_nil ?_) | (with_reducible (first | refine vcL_cons fun K' hK' => ?_); simp only [isC, Bool.false_or, Bool.or_true, vAppend, elems, ↓reduceDIte, List.take_length, Nat.le_refl, List.drop_zero, vGuard, undef, Bool.not_eq_eq_eq_not, dstOk, vcOp, vcF, isPure, putS, vcCall, St.ev, St.put, lk, AVal.ofVal, initS, Nat.reduceLT, true_and, and_true, vBin, vPart, vLoad, vStore, vIdxA, vFldA, vLen, vNil, vAlloc, vBuild, vBuildSl, vSlice, bnd, partsA, fillA, decAll, AVal.flat, AVal.cell, cellsOk, setRange, ETy.enc, ETy.dec, ETy.sz, ETy.d, cond, Nat.reduceBEq, Nat.reduceAdd, Int.toNat_natCast, List.length_set, List.length_append, List.length_replicate, List.length_take, Nat.reduceSub, Nat.reduceEqDiff, get_loc, setBox_loc, next_eq, List.length_cons, List.length_nil, List.map_cons, List.map_nil, List.append_nil, List.nil_append, List.cons_append, List.set_cons_zero, List.set_cons_succ, getD_zero, getD_succ, List.getElem?_cons_succ, List.getElem?_cons_zero, List.take_succ_cons, List.take_zero, List.drop_succ_cons, List.all_cons, List.all_nil, Bool.and_true, Bool.true_and, Option.bind_some, Option.map_some, Option.map_none, decide_eq_true_eq, decide_eq_false_iff_not, ne_eq, Bool.not_eq_true, Bool.not_eq_false, Decidable.not_not, not_true_eq_false, not_false_eq_true, forall_const, false_implies, Bool.true_eq_false, Bool.false_eq_true, reduceCtorEq, decide_true, decide_false, Bool.not_true, Bool.not_false, if_true, if_false, Nat.zero_add, Nat.lt_irrefl, Value.oneCell', gt_iff_lt, Nat.reduceLeDiff, Nat.lt_add_one, vSealSl, vvar_1, vzero_1, vvar_2, vzero_2, vknd_2, vsn_2, vvar_3, vzero_3, vknd_3, vsn_3, vvar_4, vzero_4, vknd_4, vsn_4, vsl_22, vkn_22, vvar_22, vzero_22, vsl_28, vkn_28, vvar_28, vzero_28, vvar_31, vzero_31, vbld_31, vvar_33, vzero_33, vbld_33, vpts_33, vvar_47, vzero_47, vsl_49, vkn_49, vvar_49, vzero_49, vsl_58, vkn_58, vvar_58, vzero_58, vfld_31_0, hwd, Int.toNat_zero, Int.reduceToNat]; try simp (disch := omega) only [wrap64]) | (with_reducible refine hK' _ ?_; clear hK' K') | (with_reducible refine hK _ ?_; clear hK K) | (with_reducible first | refine And.intro (And.intro rfl rfl) ?_ | refine And.intro (by omega) ?_) | (with_reducible refine And.intro (fun hg => ?_) (fun hg => ?_) <;> first | simp only [eq_false hg, decide_true, decide_false, and_true, true_and, and_false, false_and, not_true_eq_false, not_false_eq_true] | simp only [eq_true hg, decide_true, decide_false, and_true, true_and, and_false, false_and, not_true_eq_false, not_false_eq_true] | simp only [hg, decide_true, decide_false, and_true, true_and, and_false, false_and, not_true_eq_false, not_false_eq_true]) | (with_reducible first | refine And.intro rfl (And.intro rfl rfl) | refine thenQ_n ?_ | refine thenQ_exit ?_ | refine thenQ_ret ?_ | refine midQ_ret ?_ | refine midQ_exit ?_ | refine blockQ_same ?_ | refine blockQ_ne (by decide) ?_ | refine blockQ_ret ?_ | refine blockQ_n ?_ | refine AW.exit ?_ | refine AW.block ?_ | refine AW.cond_t rfl ?_ | refine AW.cond_f rfl ?_ | refine AW.cond_dec rfl (fun hc => ?_) (fun hc => ?_)) | (with_reducible refine AW.cond rfl (fun hc => ?_) (fun hc => ?_) <;> try simp only [Bool.not_eq_eq_eq_not, Bool.not_true, Bool.not_false, decide_eq_true_eq, decide_eq_false_iff_not] at hc) | (with_reducible first | refine AW.seq ?_ | refine AW.skip ?_ | refine AW.ret ?_ | refine And.intro ?_ ?_) | (with_reducible intro hg; first | simp only [eq_false hg, decide_true, decide_false, and_true, true_and, and_false, false_and, not_true_eq_false, not_false_eq_true] | simp only [eq_true hg, decide_true, decide_false, and_true, true_and, and_false, false_and, not_true_eq_false, not_false_eq_true]) | (with_reducible refine retQ_drop ?_; simp only [vRes, packRes, vLoad, vPart, lk, cond, Nat.reduceBEq, get_loc, getD_zero, getD_succ, true_and, List.length_cons, List.length_nil, Nat.reduceAdd, Nat.reduceLT, Nat.reduceLeDiff, List.take_succ_cons, List.take_zero, List.drop_succ_cons, List.drop_zero, vvar_1, vzero_1, vvar_2, vzero_2, vknd_2, vsn_2, vvar_3, vzero_3, vknd_3, vsn_3, vvar_4, vzero_4, vknd_4, vsn_4, vsl_22, vkn_22, vvar_22, vzero_22, vsl_28, vkn_28, vvar_28, vzero_28, vvar_31, vzero_31, vbld_31, vvar_33, vzero_33, vbld_33, vpts_33, vvar_47, vzero_47, vsl_49, vkn_49, vvar_49, vzero_49, vsl_58, vkn_58, vvar_58, vzero_58, vfld_31_0]) )
    all_goals first
      | (exfalso; omega)
      | skip
    refine AW.loop (fun y : Nat => (⟨44, [(0, .rp [.rd (.sli .i64) (m)] 0), (1, .rd .bool bs), (5, .sl 2 (H.length + 0) 0 ((ptsTo (Mk m bs) m.length x y).length)), (6, .v (.int .i64 ((x : Int)))), (7, .v (.int .i64 ((y : Int))))], H, [.row false .pt (ptsTo (Mk m bs) m.length x y)]⟩ : St)) (fun y => y ≤ m.length) (fun y => m.length - y) 0 (Nat.zero_le _) ?_ ?_
    · exact (Weak.slots (by repeat' first | exact trivial | exact ⟨rfl, trivial⟩ | refine ⟨rfl, ?_⟩))
    clear hpl
    intro y hy
    have hpl := ptsTo_len (Mk m bs) m.length x y
    by_cases hyn : y < m.length
    · have hin : InMz m ((x : Int), (y : Int)) := ⟨⟨by omega, by simp only; omega⟩, by simp only; omega, by simp only; omega⟩
      have hib := ixP_bnd hin
      by_cases hs : Mk m bs ((x : Int), (y : Int))
      · have hlk : bs.getD (ixP m ((x : Int), (y : Int))).toNat false = true := hs.2
        repeat' (first | (with_reducible first | refine AW.sreg envOk fun K hK => ?_ | refine AW.region envOk fun K hK => ?_ | refine vcL_nil ?_) | (with_reducible (first | refine vcL_cons fun K' hK' => ?_); simp only [isC, Bool.false_or, Bool.or_true, vAppend, elems, ↓reduceDIte, List.take_length, Nat.le_refl, List.drop_zero, vGuard, undef, Bool.not_eq_eq_eq_not, dstOk, vcOp, vcF, isPure, putS, vcCall, St.ev, St.put, lk, AVal.ofVal, initS, Nat.reduceLT, true_and, and_true, vBin, vPart, vLoad, vStore, vIdxA, vFldA, vLen, vNil, vAlloc, vBuild, vBuildSl, vSlice, bnd, partsA, fillA, decAll, AVal.flat, AVal.cell, cellsOk, setRange, ETy.enc, ETy.dec, ETy.sz, ETy.d, cond, Nat.reduceBEq, Nat.reduceAdd, Int.toNat_natCast, List.length_set, List.length_append, List.length_replicate, List.length_take, Nat.reduceSub, Nat.reduceEqDiff, get_loc, setBox_loc, next_eq, List.length_cons, List.length_nil, List.map_cons, List.map_nil, List.append_nil, List.nil_append, List.cons_append, List.set_cons_zero, List.set_cons_succ, getD_zero, getD_succ, List.getElem?_cons_succ, List.getElem?_cons_zero, List.take_succ_cons, List.take_zero, List.drop_succ_cons, List.all_cons, List.all_nil, Bool.and_true, Bool.true_and, Option.bind_some, Option.map_some, Option.map_none, decide_eq_true_eq, decide_eq_false_iff_not, ne_eq, Bool.not_eq_true, Bool.not_eq_false, Decidable.not_not, not_true_eq_false, not_false_eq_true, forall_const, false_implies, Bool.true_eq_false, Bool.false_eq_true, reduceCtorEq, decide_true, decide_false, Bool.not_true, Bool.not_false, if_true, if_false, Nat.zero_add, Nat.lt_irrefl, Value.oneCell', gt_iff_lt, Nat.reduceLeDiff, Nat.lt_add_one, vSealSl, vvar_1, vzero_1, vvar_2, vzero_2, vknd_2, vsn_2, vvar_3, vzero_3, vknd_3, vsn_3, vvar_4, vzero_4, vknd_4, vsn_4, vsl_22, vkn_22, vvar_22, vzero_22, vsl_28, vkn_28, vvar_28, vzero_28, vvar_31, vzero_31, vbld_31, vvar_33, vzero_33, vbld_33, vpts_33, vvar_47, vzero_47, vsl_49, vkn_49, vvar_49, vzero_49, vsl_58, vkn_58, vvar_58, vzero_58, vfld_31_0, hlk]; try simp (disch := omega) only [wrap64]) | (with_reducible refine hK' _ ?_; clear hK' K') | (with_reducible refine hK _ ?_; clear hK K) | (with_reducible first | refine vCall_pure (index36_ac m ((x : Int), (y : Int)) hm hin _) ?_ | refine And.intro (And.intro rfl rfl) ?_ | refine And.intro (by omega) ?_) | (with_reducible refine And.intro (fun hg => ?_) (fun hg => ?_) <;> first | simp only [eq_false hg, decide_true, decide_false, and_true, true_and, and_false, false_and, not_true_eq_false, not_false_eq_true] | simp only [eq_true hg, decide_true, decide_false, and_true, true_and, and_false, false_and, not_true_eq_false, not_false_eq_true] | simp only [hg, decide_true, decide_false, and_true, true_and, and_false, false_and, not_true_eq_false, not_false_eq_true]) | (with_reducible first | refine And.intro rfl (And.intro rfl rfl) | refine thenQ_n ?_ | refine thenQ_exit ?_ | refine thenQ_ret ?_ | refine midQ_ret ?_ | refine midQ_exit ?_ | refine blockQ_same ?_ | refine blockQ_ne (by decide) ?_ | refine blockQ_ret ?_ | refine blockQ_n ?_ | refine AW.exit ?_ | refine AW.block ?_ | refine AW.cond_t rfl ?_ | refine AW.cond_f rfl ?_ | refine AW.cond_dec rfl (fun hc => ?_) (fun hc => ?_)) | (with_reducible refine AW.cond rfl (fun hc => ?_) (fun hc => ?_) <;> try simp only [Bool.not_eq_eq_eq_not, Bool.not_true, Bool.not_false, decide_eq_true_eq, decide_eq_false_iff_not] at hc) | (with_reducible first | refine AW.seq ?_ | refine AW.skip ?_ | refine AW.ret ?_ | refine And.intro ?_ ?_) | (with_reducible intro hg; first | simp only [eq_false hg, decide_true, decide_false, and_true, true_and, and_false, false_and, not_true_eq_false, not_false_eq_true] | simp only [eq_true hg, decide_true, decide_false, and_true, true_and, and_false, false_and, not_true_eq_false, not_false_eq_true]) | (with_reducible refine retQ_drop ?_; simp only [vRes, packRes, vLoad, vPart, lk, cond, Nat.reduceBEq, get_loc, getD_zero, getD_succ, true_and, List.length_cons, List.length_nil, Nat.reduceAdd, Nat.reduceLT, Nat.reduceLeDiff, List.take_succ_cons, List.take_zero, List.drop_succ_cons, List.drop_zero, vvar_1, vzero_1, vvar_2, vzero_2, vknd_2, vsn_2, vvar_3, vzero_3, vknd_3, vsn_3, vvar_4, vzero_4, vknd_4, vsn_4, vsl_22, vkn_22, vvar_22, vzero_22, vsl_28, vkn_28, vvar_28, vzero_28, vvar_31, vzero_31, vbld_31, vvar_33, vzero_33, vbld_33, vpts_33, vvar_47, vzero_47, vsl_49, vkn_49, vvar_49, vzero_49, vsl_58, vkn_58, vvar_58, vzero_58, vfld_31_0]) )
        all_goals first
          | (exfalso; omega)
          | skip
        refine ⟨y + 1, by omega, by omega, ?_⟩
        rw [ptsTo_yes hs]
        simp only [List.length_append, List.length_singleton]
        exact (Weak.sel [3] hB (by decide) (by (repeat' (first | exact trivial | exact RenB.plRow rfl | exact RenB.dead _ | exact RenB.map _ _ | exact RenB.iter rfl | refine And.intro ?_ ?_ | (refine RenB.plBox ?_; (repeat' (first | exact Pl.v _ | exact Pl.junk | exact Pl.rd rfl _ | exact pl_nil | refine pl_cons ?_ ?_ | refine Pl.agg ?_ | refine Pl.tup ?_ | refine Pl.rp ?_ | refine Pl.fn ?_)); (first | done | fail)) | refine RenB.of ?_ | exact RenV.ptr rfl | exact RenV.sl rfl | exact RenV.mp rfl | exact RenV.it rfl | (refine RenV.pl ?_; (repeat' (first | exact Pl.v _ | exact Pl.junk | exact Pl.rd rfl _ | exact pl_nil | refine pl_cons ?_ ?_ | refine Pl.agg ?_ | refine Pl.tup ?_ | refine Pl.rp ?_ | refine Pl.fn ?_)); (first | done | fail)) | refine RenV.aggL ?_ | refine RenV.fnL ?_ | exact Nat.lt_of_sub_pos (by decide) | (simp; (first | done | fail)))); (first | done | fail)) (by (repeat' (first | exact trivial | exact RenV.ptr rfl | exact RenV.sl rfl | exact RenV.mp rfl | exact RenV.it rfl | exact RenV.low (.v _) | exact RenV.low (IdsLt.ptr (by assumption)) | (refine RenV.pl ?_; (repeat' (first | exact Pl.v _ | exact Pl.junk | exact Pl.rd rfl _ | exact pl_nil | refine pl_cons ?_ ?_ | refine Pl.agg ?_ | refine Pl.tup ?_ | refine Pl.rp ?_ | refine Pl.fn ?_)); (first | done | fail)) | refine RenV.fnL ?_ | refine RenV.aggL ?_ | refine And.intro ?_ ?_)); (first | done | fail)))
      · have hlk : bs.getD (ixP m ((x : Int), (y : Int))).toNat false = false := by
          have : ¬ bs.getD (ixP m ((x : Int), (y : Int))).toNat false = true := fun h => hs ⟨hin, h⟩
          simpa using this
        repeat' (first | (with_reducible first | refine AW.sreg envOk fun K hK => ?_ | refine AW.region envOk fun K hK => ?_ | refine vcL_nil ?_) | (with_reducible (first | refine vcL_cons fun K' hK' => ?_); simp only [isC, Bool.false_or, Bool.or_true, vAppend, elems, ↓reduceDIte, List.take_length, Nat.le_refl, List.drop_zero, vGuard, undef, Bool.not_eq_eq_eq_not, dstOk, vcOp, vcF, isPure, putS, vcCall, St.ev, St.put, lk, AVal.ofVal, initS, Nat.reduceLT, true_and, and_true, vBin, vPart, vLoad, vStore, vIdxA, vFldA, vLen, vNil, vAlloc, vBuild, vBuildSl, vSlice, bnd, partsA, fillA, decAll, AVal.flat, AVal.cell, cellsOk, setRange, ETy.enc, ETy.dec, ETy.sz, ETy.d, cond, Nat.reduceBEq, Nat.reduceAdd, Int.toNat_natCast, List.length_set, List.length_append, List.length_replicate, List.length_take, Nat.reduceSub, Nat.reduceEqDiff, get_loc, setBox_loc, next_eq, List.length_cons, List.length_nil, List.map_cons, List.map_nil, List.append_nil, List.nil_append, List.cons_append, List.set_cons_zero, List.set_cons_succ, getD_zero, getD_succ, List.getElem?_cons_succ, List.getElem?_cons_zero, List.take_succ_cons, List.take_zero, List.drop_succ_cons, List.all_cons, List.all_nil, Bool.and_true, Bool.true_and, Option.bind_some, Option.map_some, Option.map_none, decide_eq_true_eq, decide_eq_false_iff_not, ne_eq, Bool.not_eq_true, Bool.not_eq_false, Decidable.not_not, not_true_eq_false, not_false_eq_true, forall_const, false_implies, Bool.true_eq_false, Bool.false_eq_true, reduceCtorEq, decide_true, decide_false, Bool.not_true, Bool.not_false, if_true, if_false, Nat.zero_add, Nat.lt_irrefl, Value.oneCell', gt_iff_lt, Nat.reduceLeDiff, Nat.lt_add_one, vSealSl, vvar_1, vzero_1, vvar_2, vzero_2, vknd_2, vsn_2, vvar_3, vzero_3, vknd_3, vsn_3, vvar_4, vzero_4, vknd_4, vsn_4, vsl_22, vkn_22, vvar_22, vzero_22, vsl_28, vkn_28, vvar_28, vzero_28, vvar_31, vzero_31, vbld_31, vvar_33, vzero_33, vbld_33, vpts_33, vvar_47, vzero_47, vsl_49, vkn_49, vvar_49, vzero_49, vsl_58, vkn_58, vvar_58, vzero_58, vfld_31_0, hlk]; try simp (disch := omega) only [wrap64]) | (with_reducible refine hK' _ ?_; clear hK' K') | (with_reducible refine hK _ ?_; clear hK K) | (with_reducible first | refine vCall_pure (index36_ac m ((x : Int), (y : Int)) hm hin _) ?_ | refine And.intro (And.intro rfl rfl) ?_ | refine And.intro (by omega) ?_) | (with_reducible refine And.intro (fun hg => ?_) (fun hg => ?_) <;> first | simp only [eq_false hg, decide_true, decide_false, and_true, true_and, and_false, false_and, not_true_eq_false, not_false_eq_true] | simp only [eq_true hg, decide_true, decide_false, and_true, true_and, and_false, false_and, not_true_eq_false, not_false_eq_true] | simp only [hg, decide_true, decide_false, and_true, true_and, and_false, false_and, not_true_eq_false, not_false_eq_true]) | (with_reducible first | refine And.intro rfl (And.intro rfl rfl) | refine thenQ_n ?_ | refine thenQ_exit ?_ | refine thenQ_ret ?_ | refine midQ_ret ?_ | refine midQ_exit ?_ | refine blockQ_same ?_ | refine blockQ_ne (by decide) ?_ | refine blockQ_ret ?_ | refine blockQ_n ?_ | refine AW.exit ?_ | refine AW.block ?_ | refine AW.cond_t rfl ?_ | refine AW.cond_f rfl ?_ | refine AW.cond_dec rfl (fun hc => ?_) (fun hc => ?_)) | (with_reducible refine AW.cond rfl (fun hc => ?_) (fun hc => ?_) <;> try simp only [Bool.not_eq_eq_eq_not, Bool.not_true, Bool.not_false, decide_eq_true_eq, decide_eq_false_iff_not] at hc) | (with_reducible first | refine AW.seq ?_ | refine AW.skip ?_ | refine AW.ret ?_ | refine And.intro ?_ ?_) | (with_reducible intro hg; first | simp only [eq_false hg, decide_true, decide_false, and_true, true_and, and_false, false_and, not_true_eq_false, not_false_eq_true] | simp only [eq_true hg, decide_true, decide_false, and_true, true_and, and_false, false_and, not_true_eq_false, not_false_eq_true]) | (with_reducible refine retQ_drop ?_; simp only [vRes, packRes, vLoad, vPart, lk, cond, Nat.reduceBEq, get_loc, getD_zero, getD_succ, true_and, List.length_cons, List.length_nil, Nat.reduceAdd, Nat.reduceLT, Nat.reduceLeDiff, List.take_succ_cons, List.take_zero, List.drop_succ_cons, List.drop_zero, vvar_1, vzero_1, vvar_2, vzero_2, vknd_2, vsn_2, vvar_3, vzero_3, vknd_3, vsn_3, vvar_4, vzero_4, vknd_4, vsn_4, vsl_22, vkn_22, vvar_22, vzero_22, vsl_28, vkn_28, vvar_28, vzero_28, vvar_31, vzero_31, vbld_31, vvar_33, vzero_33, vbld_33, vpts_33, vvar_47, vzero_47, vsl_49, vkn_49, vvar_49, vzero_49, vsl_58, vkn_58, vvar_58, vzero_58, vfld_31_0]) )
        all_goals first
          | (exfalso; omega)
          | skip
        refine ⟨y + 1, by omega, by omega, ?_⟩
        rw [ptsTo_no hs]
        exact (Weak.sel [0] hB (by decide) (by (repeat' (first | exact trivial | exact RenB.plRow rfl | exact RenB.dead _ | exact RenB.map _ _ | exact RenB.iter rfl | refine And.intro ?_ ?_ | (refine RenB.plBox ?_; (repeat' (first | exact Pl.v _ | exact Pl.junk | exact Pl.rd rfl _ | exact pl_nil | refine pl_cons ?_ ?_ | refine Pl.agg ?_ | refine Pl.tup ?_ | refine Pl.rp ?_ | refine Pl.fn ?_)); (first | done | fail)) | refine RenB.of ?_ | exact RenV.ptr rfl | exact RenV.sl rfl | exact RenV.mp rfl | exact RenV.it rfl | (refine RenV.pl ?_; (repeat' (first | exact Pl.v _ | exact Pl.junk | exact Pl.rd rfl _ | exact pl_nil | refine pl_cons ?_ ?_ | refine Pl.agg ?_ | refine Pl.tup ?_ | refine Pl.rp ?_ | refine Pl.fn ?_)); (first | done | fail)) | refine RenV.aggL ?_ | refine RenV.fnL ?_ | exact Nat.lt_of_sub_pos (by decide) | (simp; (first | done | fail)))); (first | done | fail)) (by (repeat' (first | exact trivial | exact RenV.ptr rfl | exact RenV.sl rfl | exact RenV.mp rfl | exact RenV.it rfl | exact RenV.low (.v _) | exact RenV.low (IdsLt.ptr (by assumption)) | (refine RenV.pl ?_; (repeat' (first | exact Pl.v _ | exact Pl.junk | exact Pl.rd rfl _ | exact pl_nil | refine pl_cons ?_ ?_ | refine Pl.agg ?_ | refine Pl.tup ?_ | refine Pl.rp ?_ | refine Pl.fn ?_)); (first | done | fail)) | refine RenV.fnL ?_ | refine RenV.aggL ?_ | refine And.intro ?_ ?_)); (first | done | fail)))
    · obtain rfl : y = m.length := by omega
      repeat' (first | (with_reducible first | refine AW.sreg envOk fun K hK => ?_ | refine AW.region envOk fun K hK => ?_ | refine vcL_nil ?_) | (with_reducible (first | refine vcL_cons fun K' hK' => ?_); simp only [isC, Bool.false_or, Bool.or_true, vAppend, elems, ↓reduceDIte, List.take_length, Nat.le_refl, List.drop_zero, vGuard, undef, Bool.not_eq_eq_eq_not, dstOk, vcOp, vcF, isPure, putS, vcCall, St.ev, St.put, lk, AVal.ofVal, initS, Nat.reduceLT, true_and, and_true, vBin, vPart, vLoad, vStore, vIdxA, vFldA, vLen, vNil, vAlloc, vBuild, vBuildSl, vSlice, bnd, partsA, fillA, decAll, AVal.flat, AVal.cell, cellsOk, setRange, ETy.enc, ETy.dec, ETy.sz, ETy.d, cond, Nat.reduceBEq, Nat.reduceAdd, Int.toNat_natCast, List.length_set, List.length_append, List.length_replicate, List.length_take, Nat.reduceSub, Nat.reduceEqDiff, get_loc, setBox_loc, next_eq, List.length_cons, List.length_nil, List.map_cons, List.map_nil, List.append_nil, List.nil_append, List.cons_append, List.set_cons_zero, List.set_cons_succ, getD_zero, getD_succ, List.getElem?_cons_succ, List.getElem?_cons_zero, List.take_succ_cons, List.take_zero, List.drop_succ_cons, List.all_cons, List.all_nil, Bool.and_true, Bool.true_and, Option.bind_some, Option.map_some, Option.map_none, decide_eq_true_eq, decide_eq_false_iff_not, ne_eq, Bool.not_eq_true, Bool.not_eq_false, Decidable.not_not, not_true_eq_false, not_false_eq_true, forall_const, false_implies, Bool.true_eq_false, Bool.false_eq_true, reduceCtorEq, decide_true, decide_false, Bool.not_true, Bool.not_false, if_true, if_false, Nat.zero_add, Nat.lt_irrefl, Value.oneCell', gt_iff_lt, Nat.reduceLeDiff, Nat.lt_add_one, vSealSl, vvar_1, vzero_1, vvar_2, vzero_2, vknd_2, vsn_2, vvar_3, vzero_3, vknd_3, vsn_3, vvar_4, vzero_4, vknd_4, vsn_4, vsl_22, vkn_22, vvar_22, vzero_22, vsl_28, vkn_28, vvar_28, vzero_28, vvar_31, vzero_31, vbld_31, vvar_33, vzero_33, vbld_33, vpts_33, vvar_47, vzero_47, vsl_49, vkn_49, vvar_49, vzero_49, vsl_58, vkn_58, vvar_58, vzero_58, vfld_31_0]; try simp (disch := omega) only [wrap64]) | (with_reducible refine hK' _ ?_; clear hK' K') | (with_reducible refine hK _ ?_; clear hK K) | (with_reducible first | refine And.intro (And.intro rfl rfl) ?_ | refine And.intro (by omega) ?_) | (with_reducible refine And.intro (fun hg => ?_) (fun hg => ?_) <;> first | simp only [eq_false hg, decide_true, decide_false, and_true, true_and, and_false, false_and, not_true_eq_false, not_false_eq_true] | simp only [eq_true hg, decide_true, decide_false, and_true, true_and, and_false, false_and, not_true_eq_false, not_false_eq_true] | simp only [hg, decide_true, decide_false, and_true, true_and, and_false, false_and, not_true_eq_false, not_false_eq_true]) | (with_reducible first | refine And.intro rfl (And.intro rfl rfl) | refine thenQ_n ?_ | refine thenQ_exit ?_ | refine thenQ_ret ?_ | refine midQ_ret ?_ | refine midQ_exit ?_ | refine blockQ_same ?_ | refine blockQ_ne (by decide) ?_ | refine blockQ_ret ?_ | refine blockQ_n ?_ | refine AW.exit ?_ | refine AW.block ?_ | refine AW.cond_t rfl ?_ | refine AW.cond_f rfl ?_ | refine AW.cond_dec rfl (fun hc => ?_) (fun hc => ?_)) | (with_reducible refine AW.cond rfl (fun hc => ?_) (fun hc => ?_) <;> try simp only [Bool.not_eq_eq_eq_not, Bool.not_true, Bool.not_false, decide_eq_true_eq, decide_eq_false_iff_not] at hc) | (with_reducible first | refine AW.seq ?_ | refine AW.skip ?_ | refine AW.ret ?_ | refine And.intro ?_ ?_) | (with_reducible intro hg; first | simp only [eq_false hg, decide_true, decide_false, and_true, true_and, and_false, false_and, not_true_eq_false, not_false_eq_true] | simp only [eq_true hg, decide_true, decide_false, and_true, true_and, and_false, false_and, not_true_eq_false, not_false_eq_true]) | (with_reducible refine retQ_drop ?_; simp only [vRes, packRes, vLoad, vPart, lk, cond, Nat.reduceBEq, get_loc, getD_zero, getD_succ, true_and, List.length_cons, List.length_nil, Nat.reduceAdd, Nat.reduceLT, Nat.reduceLeDiff, List.take_succ_cons, List.take_zero, List.drop_succ_cons, List.drop_zero, vvar_1, vzero_1, vvar_2, vzero_2, vknd_2, vsn_2, vvar_3, vzero_3, vknd_3, vsn_3, vvar_4, vzero_4, vknd_4, vsn_4, vsl_22, vkn_22, vvar_22, vzero_22, vsl_28, vkn_28, vvar_28, vzero_28, vvar_31, vzero_31, vbld_31, vvar_33, vzero_33, vbld_33, vpts_33, vvar_47, vzero_47, vsl_49, vkn_49, vvar_49, vzero_49, vsl_58, vkn_58, vvar_58, vzero_58, vfld_31_0]) )
      all_goals first
        | (exfalso; omega)
        | skip
      refine ⟨x + 1, by omega, by omega, ?_⟩
      rw [← ptsTo_col]
      exact (Weak.slots (by repeat' first | exact trivial | exact ⟨rfl, trivial⟩ | refine ⟨rfl, ?_⟩))
  · obtain rfl : x = width m := by omega
    repeat' (first | (with_reducible first | refine AW.sreg envOk fun K hK => ?_ | refine AW.region envOk fun K hK => ?_ | refine vcL_nil ?_) | (with_reducible (first | refine vcL_cons fun K' hK' => ?_); simp only [isC, Bool.false_or, Bool.or_true, vAppend, elems, ↓reduceDIte, List.take_length, Nat.le_refl, List.drop_zero, vGuard, undef, Bool.not_eq_eq_eq_not, dstOk, vcOp, vcF, isPure, putS, vcCall, St.ev, St.put, lk, AVal.ofVal, initS, Nat.reduceLT, true_and, and_true, vBin, vPart, vLoad, vStore, vIdxA, vFldA, vLen, vNil, vAlloc, vBuild, vBuildSl, vSlice, bnd, partsA, fillA, decAll, AVal.flat, AVal.cell, cellsOk, setRange, ETy.enc, ETy.dec, ETy.sz, ETy.d, cond, Nat.reduceBEq, Nat.reduceAdd, Int.toNat_natCast, List.length_set, List.length_append, List.length_replicate, List.length_take, Nat.reduceSub, Nat.reduceEqDiff, get_loc, setBox_loc, next_eq, List.length_cons, List.length_nil, List.map_cons, List.map_nil, List.append_nil, List.nil_append, List.cons_append, List.set_cons_zero, List.set_cons_succ, getD_zero, getD_succ, List.getElem?_cons_succ, List.getElem?_cons_zero, List.take_succ_cons, List.take_zero, List.drop_succ_cons, List.all_cons, List.all_nil, Bool.and_true, Bool.true_and, Option.bind_some, Option.map_some, Option.map_none, decide_eq_true_eq, decide_eq_false_iff_not, ne_eq, Bool.not_eq_true, Bool.not_eq_false, Decidable.not_not, not_true_eq_false, not_false_eq_true, forall_const, false_implies, Bool.true_eq_false, Bool.false_eq_true, reduceCtorEq, decide_true, decide_false, Bool.not_true, Bool.not_false, if_true, if_false, Nat.zero_add, Nat.lt_irrefl, Value.oneCell', gt_iff_lt, Nat.reduceLeDiff, Nat.lt_add_one, vSealSl, vvar_1, vzero_1, vvar_2, vzero_2, vknd_2, vsn_2, vvar_3, vzero_3, vknd_3, vsn_3, vvar_4, vzero_4, vknd_4, vsn_4, vsl_22, vkn_22, vvar_22, vzero_22, vsl_28, vkn_28, vvar_28, vzero_28, vvar_31, vzero_31, vbld_31, vvar_33, vzero_33, vbld_33, vpts_33, vvar_47, vzero_47, vsl_49, vkn_49, vvar_49, vzero_49, vsl_58, vkn_58, vvar_58, vzero_58, vfld_31_0, hwd, Int.toNat_zero, Int.reduceToNat]; try simp (disch := omega) only [wrap64]) | (with_reducible refine hK' _ ?_; clear hK' K') | (with_reducible refine hK _ ?_; clear hK K) | (with_reducible first | refine And.intro (And.intro rfl rfl) ?_ | refine And.intro (by omega) ?_) | (with_reducible refine And.intro (fun hg => ?_) (fun hg => ?_) <;> first | simp only [eq_false hg, decide_true, decide_false, and_true, true_and, and_false, false_and, not_true_eq_false, not_false_eq_true] | simp only [eq_true hg, decide_true, decide_false, and_true, true_and, and_false, false_and, not_true_eq_false, not_false_eq_true] | simp only [hg, decide_true, decide_false, and_true, true_and, and_false, false_and, not_true_eq_false, not_false_eq_true]) | (with_reducible first | refine And.intro rfl (And.intro rfl rfl) | refine thenQ_n ?_ | refine thenQ_exit ?_ | refine thenQ_ret ?_ | refine midQ_ret ?_ | refine midQ_exit ?_ | refine blockQ_same ?_ | refine blockQ_ne (by decide) ?_ | refine blockQ_ret ?_ | refine blockQ_n ?_ | refine AW.exit ?_ | refine AW.block ?_ | refine AW.cond_t rfl ?_ | refine AW.cond_f rfl ?_ | refine AW.cond_dec rfl (fun hc => ?_) (fun hc => ?_)) | (with_reducible refine AW.cond rfl (fun hc => ?_) (fun hc => ?_) <;> try simp only [Bool.not_eq_eq_eq_not, Bool.not_true, Bool.not_false, decide_eq_true_eq, decide_eq_false_iff_not] at hc) | (with_reducible first | refine AW.seq ?_ | refine AW.skip ?_ | refine AW.ret ?_ | refine And.intro ?_ ?_) | (with_reducible intro hg; first | simp only [eq_false hg, decide_true, decide_false, and_true, true_and, and_false, false_and, not_true_eq_false, not_false_eq_true] | simp only [eq_true hg, decide_true, decide_false, and_true, true_and, and_false, false_and, not_true_eq_false, not_false_eq_true]) | (with_reducible refine retQ_drop ?_; simp only [vRes, packRes, vLoad, vPart, lk, cond, Nat.reduceBEq, get_loc, getD_zero, getD_succ, true_and, List.length_cons, List.length_nil, Nat.reduceAdd, Nat.reduceLT, Nat.reduceLeDiff, List.take_succ_cons, List.take_zero, List.drop_succ_cons, List.drop_zero, vvar_1, vzero_1, vvar_2, vzero_2, vknd_2, vsn_2, vvar_3, vzero_3, vknd_3, vsn_3, vvar_4, vzero_4, vknd_4, vsn_4, vsl_22, vkn_22, vvar_22, vzero_22, vsl_28, vkn_28, vvar_28, vzero_28, vvar_31, vzero_31, vbld_31, vvar_33, vzero_33, vbld_33, vpts_33, vvar_47, vzero_47, vsl_49, vkn_49, vvar_49, vzero_49, vsl_58, vkn_58, vvar_58, vzero_58, vfld_31_0]) )
    all_goals first
      | (exfalso; omega)
      | skip
    exact ⟨_, _, FinOk.keep [0] (L := [.row false .pt (ptsTo (Mk m bs) m.length (width m) 0)]) hB (by decide) ⟨RenB.plRow rfl, by simp, trivial⟩ (RenV.sl (j := 0) rfl), rfl, rfl⟩
theorem get_base {N : Nat} {s : List (Nat × AVal)} {H l : List ABox} {kc : Nat} {X : ABox} (h : H[kc]? = some X) : St.get ⟨N, s, H, l⟩ kc = X := by
  unfold St.get
  simp only [List.getD]
  rw [List.getElem?_append_left (List.getElem?_eq_some_iff.1 h).1, h]; rfl
theorem vNext_base {N : Nat} {s : List (Nat × AVal)} {b l : List ABox} {j id since : Nat} {seen : List Nat} {kk : KK} {es : List (kk.T × Value)} {k : AVal → List ABox → List ABox → Prop}
    (hi : l[j]? = some (.iter id since seen)) (hm : b[id]? = some (.map kk es)) (hs : since = es.length)
    (h1 : ∀ (q : Nat) (e : kk.T × Value), es[q]? = some e → ¬ q ∈ seen → k (.tup [.v (.bool true), kk.av e.1, .ofVal e.2]) b (l.set j (.iter id since (seen ++ [q]))))
    (h2 : (∀ q, q < es.length → q ∈ seen) → k (.tup [.v (.bool false)]) b l) : vNext ⟨N, s, b, l⟩ (.it (b.length + j)) k := by
  have g1 : St.get ⟨N, s, b, l⟩ (b.length + j) = .iter id since seen := by rw [get_loc]; simp [List.getD, hi]
  have g2 : St.get ⟨N, s, b, l⟩ id = .map kk es := get_base hm
  unfold vNext
  simp only [g1, g2]
  refine ⟨hs, fun q e hq hns => ?_, h2⟩
  rw [setBox_loc]
  exact h1 q e hq hns
/-- The points met so far, in the order in which they were met. -/
def metP (ks : List Pt) (seen : List Nat) : List Pt := seen.map fun q => ks.getD q (0, 0)
theorem metP_snoc (ks : List Pt) (seen : List Nat) (q : Nat) : metP ks (seen ++ [q]) = metP ks seen ++ [ks.getD q (0, 0)] := by simp [metP]
theorem metP_len (ks : List Pt) (seen : List Nat) : (metP ks seen).length = seen.length := by simp [metP]
theorem metP_mem {ks : List Pt} {seen : List Nat} (hlt : ∀ q ∈ seen, q < ks.length) (hall : ∀ q, q < ks.length → q ∈ seen) (p : Pt) : p ∈ metP ks seen ↔ p ∈ ks := by
  unfold metP
  rw [List.mem_map]
  constructor
  · rintro ⟨q, hq, rfl⟩
    have := hlt q hq
    simp only [List.getD, List.getElem?_eq_getElem this, Option.getD_some]; exact List.getElem_mem this
  · intro hp
    obtain ⟨q, hq, rfl⟩ := List.mem_iff_getElem.1 hp
    exact ⟨q, hall q hq, by simp [List.getD, hq]⟩
theorem seen_le {n : Nat} {seen : List Nat} (hn : seen.Nodup) (hlt : ∀ q ∈ seen, q < n) : seen.length ≤ n := by
  have key : ∀ (l : List Nat), l.Nodup → ∀ M : List Nat, (∀ x ∈ l, x ∈ M) → l.length ≤ M.length := by
    intro l
    induction l with
    | nil => intro _ M _; simp
    | cons a r ih =>
      intro hn M h
      rw [List.nodup_cons] at hn
      have ha := h a (by simp)
      have := ih hn.2 (M.erase a) (fun x hx => by
        have hxa : x ≠ a := fun e => hn.1 (e ▸ hx)
        exact (List.mem_erase_of_ne hxa).2 (h x (List.mem_cons_of_mem _ hx)))
      rw [List.length_erase_of_mem ha] at this
      have hM : 0 < M.length := List.length_pos_of_mem ha
      simp only [List.length_cons]; omega
  have := key seen hn (List.range n) (fun x hx => List.mem_range.2 (hlt x hx))
  simpa using this
theorem isSet_same {xs ys zs : List Pt} (h : IsSet xs zs) (e : ∀ p, p ∈ xs ↔ p ∈ ys) : IsSet ys zs := ⟨h.1, fun p => (h.2 p).trans (e p)⟩
theorem setOf_is {xs : List Pt} (h : ∃ ys, IsSet xs ys) : IsSet xs (setOf xs) := by
  obtain ⟨ys, hy⟩ := h
  have := setOf_eq hy
  rw [← this]; exact hy
end Go.Proofs.Ytfkohliggbajkaa
end
section
set_option linter.unusedSimpArgs false
set_option linter.unusedVariables false
set_option maxHeartbeats 2000000
namespace Go.Proofs.Ytfkohliggbajkaa
open Go.Eng
theorem AC.lentEx {ι : Type} {F F' : ι → AVal} {N : ι → List ABox} {Φ : ι → Prop} {f : FuncId} {args args' : List AVal} {H : List ABox} (hF : ∀ x, F x = F' x) (ha : LentL H args args') (hX : ∀ x, Φ x → NoRd (F x)) (hnew : ∀ x, Φ x → ∀ Z ∈ N x, NoRdW Z)
    (h : AC Try.prog f args' (killAll H) (fun r H' => ∃ x, Φ x ∧ r = F x ∧ H' = killAll H ++ N x)) : AC Try.prog f args H (fun r H' => ∃ x, Φ x ∧ r = F' x ∧ H' = H ++ N x) :=
  (AC.lentE ha hX hnew h).mono fun r H' ⟨x, h1, h2, h3⟩ => ⟨x, h1, h2.trans (hF x), h3⟩
theorem vCall_exN {ι : Type} {Φ : ι → Prop} {F : ι → AVal} {Nw : ι → List ABox} {f : FuncId} {args : List AVal} {N : Nat} {s : List (Nat × AVal)} {b l : List ABox} {k : AVal → List ABox → List ABox → Prop}
    (h : AC Try.prog f args (b ++ l) (fun r H' => ∃ x, Φ x ∧ r = F x ∧ H' = (b ++ l) ++ Nw x)) (hk : ∀ x, Φ x → k (F x) b (l ++ Nw x)) : vCall Try.prog (.fn f []) args ⟨N, s, b, l⟩ k := by
  show AC Try.prog f (args ++ []) (b ++ l) _
  rw [List.append_nil]
  exact h.mono fun r H' ⟨x, h1, h2, h3⟩ => ⟨b, l ++ Nw x, by rw [h3, List.append_assoc], rfl, h2 ▸ hk x h1⟩
theorem isSet_perm {xs ys : List Pt} (e : ∀ p, p ∈ xs ↔ p ∈ ys) (h : ∃ zs, IsSet ys zs) : setOf xs = setOf ys := by
  have h1 := setOf_is h
  exact (setOf_eq (isSet_same h1 (fun p => (e p).symm))).symm
theorem pointsOf29_ac (ks : List Pt) (h0 : 0 < ks.length) (hx : ks.length ≤ 1000) (hset : ∃ zs, IsSet ks zs) {H : List ABox} {kc : Nat} (hkc : H[kc]? = some (.map .pt (entP ks))) : AC Try.prog 29 [.mp kc] H
    (fun r H' => r = .sl 2 H.length 0 (setOf ks).length ∧ H' = H ++ [.row false .pt (setOf ks)]) := by
  have hkl : kc < H.length := (List.getElem?_eq_some_iff.1 hkc).1
  have hgb : ∀ N s l, St.get ⟨N, s, H, l⟩ kc = .map .pt (entP ks) := fun N s l => get_base hkc
  have hel := entP_len ks
  refine AC.enter envOk Try.func29 rfl (by decide) Try.ntmps29 Try.results29 (by simp) fun hB => ?_
  repeat' (first | (with_reducible first | refine AW.sreg envOk fun K hK => ?_ | refine AW.region envOk fun K hK => ?_ | refine vcL_nil ?_) | (with_reducible (first | refine vcL_cons fun K' hK' => ?_); simp only [isC, Bool.false_or, Bool.or_true, vAppend, elems, ↓reduceDIte, List.take_length, Nat.le_refl, List.drop_zero, vGuard, undef, Bool.not_eq_eq_eq_not, dstOk, vcOp, vcF, isPure, putS, vcCall, St.ev, St.put, lk, AVal.ofVal, initS, Nat.reduceLT, true_and, and_true, vPart, vLoad, vStore, vExt, vAlloc, vBuildSl, vSlice, bnd, partsA, fillA, decAll, AVal.flat, AVal.cell, cellsOk, setRange, ETy.enc, ETy.dec, ETy.sz, ETy.d, cond, Nat.reduceBEq, Nat.reduceAdd, Int.toNat_natCast, List.length_set, List.length_append, List.length_replicate, List.length_take, Nat.reduceSub, Nat.reduceEqDiff, get_loc, setBox_loc, next_eq, List.length_cons, List.length_nil, List.map_cons, List.map_nil, List.append_nil, List.nil_append, List.cons_append, List.set_cons_zero, List.set_cons_succ, getD_zero, getD_succ, List.getElem?_cons_succ, List.getElem?_cons_zero, List.take_succ_cons, List.take_zero, List.drop_succ_cons, List.all_cons, List.all_nil, Bool.and_true, Bool.true_and, Option.bind_some, Option.map_some, Option.map_none, decide_eq_true_eq, decide_eq_false_iff_not, ne_eq, Bool.not_eq_true, Bool.not_eq_false, Decidable.not_not, not_true_eq_false, not_false_eq_true, forall_const, false_implies, Bool.true_eq_false, Bool.false_eq_true, reduceCtorEq, decide_true, decide_false, Bool.not_true, Bool.not_false, if_true, if_false, Nat.zero_add, Nat.lt_irrefl, Value.oneCell', gt_iff_lt, Nat.reduceLeDiff, Nat.lt_add_one, vSealSl, vMakeMap, vLookup, vMapUpd, vMapEnt, vEntSt, vRange, vEntry, KK.of, KK.av, lkRes, entry_last, vvar_1, vzero_1, vvar_4, vzero_4, vknd_4, vsn_4, vsl_28, vkn_28, vvar_28, vzero_28, vvar_33, vzero_33, vbld_33, vpts_33, vvar_54, vzero_54, vmp_54, hgb]; try simp (disch := omega) only [wrap64]) | (with_reducible refine hK' _ ?_; clear hK' K') | (with_reducible refine hK _ ?_; clear hK K) | (with_reducible first | refine And.intro (And.intro rfl rfl) ?_ | refine And.intro (by omega) ?_) | (with_reducible refine And.intro (fun hg => ?_) (fun hg => ?_) <;> first | simp only [eq_false hg, decide_true, decide_false, and_true, true_and, and_false, false_and, not_true_eq_false, not_false_eq_true] | simp only [eq_true hg, decide_true, decide_false, and_true, true_and, and_false, false_and, not_true_eq_false, not_false_eq_true] | simp only [hg, decide_true, decide_false, and_true, true_and, and_false, false_and, not_true_eq_false, not_false_eq_true]) | (with_reducible first | refine And.intro rfl (And.intro rfl rfl) | refine thenQ_n ?_ | refine thenQ_exit ?_ | refine thenQ_ret ?_ | refine midQ_ret ?_ | refine midQ_exit ?_ | refine blockQ_same ?_ | refine blockQ_ne (by decide) ?_ | refine blockQ_ret ?_ | refine blockQ_n ?_ | refine AW.exit ?_ | refine AW.block ?_ | refine AW.cond_t rfl ?_ | refine AW.cond_f rfl ?_ | refine AW.cond_dec rfl (fun hc => ?_) (fun hc => ?_)) | (with_reducible refine AW.cond rfl (fun hc => ?_) (fun hc => ?_) <;> try simp only [Bool.not_eq_eq_eq_not, Bool.not_true, Bool.not_false, decide_eq_true_eq, decide_eq_false_iff_not] at hc) | (with_reducible first | refine AW.seq ?_ | refine AW.skip ?_ | refine AW.ret ?_ | refine And.intro ?_ ?_) | (with_reducible intro hg; first | simp only [eq_false hg, decide_true, decide_false, and_true, true_and, and_false, false_and, not_true_eq_false, not_false_eq_true] | simp only [eq_true hg, decide_true, decide_false, and_true, true_and, and_false, false_and, not_true_eq_false, not_false_eq_true]) | (with_reducible refine retQ_drop ?_; simp only [vRes, packRes, vLoad, vPart, lk, cond, Nat.reduceBEq, get_loc, getD_zero, getD_succ, true_and, List.length_cons, List.length_nil, Nat.reduceAdd, Nat.reduceLT, Nat.reduceLeDiff, List.take_succ_cons, List.take_zero, List.drop_succ_cons, List.drop_zero, vvar_1, vzero_1, vvar_4, vzero_4, vknd_4, vsn_4, vsl_28, vkn_28, vvar_28, vzero_28, vvar_33, vzero_33, vbld_33, vpts_33, vvar_54, vzero_54, vmp_54]) )
  refine AW.loop (fun seen : List Nat => (⟨18, [(3, .sl 2 (H.length + 0) 0 (seen.length)), (7, .it (H.length + 1))], H, [.row false .pt (metP ks seen), .iter kc ks.length seen]⟩ : St)) (fun seen => seen.Nodup ∧ ∀ q ∈ seen, q < ks.length) (fun seen => ks.length - seen.length) [] ⟨List.nodup_nil, fun q h => by simp at h⟩ ?_ ?_
  · rw [← hel]
    exact (Weak.slots (by repeat' first | exact trivial | exact ⟨rfl, trivial⟩ | refine ⟨rfl, ?_⟩))
  intro seen ⟨hn, hlt⟩
  have hsl := seen_le hn hlt
  have hml := metP_len ks seen
  repeat' (first | (with_reducible first | refine AW.sreg envOk fun K hK => ?_ | refine AW.region envOk fun K hK => ?_ | refine vcL_nil ?_) | (with_reducible (first | refine vcL_cons fun K' hK' => ?_); simp only [isC, Bool.false_or, Bool.or_true, vAppend, elems, ↓reduceDIte, List.take_length, Nat.le_refl, List.drop_zero, vGuard, undef, Bool.not_eq_eq_eq_not, dstOk, vcOp, vcF, isPure, putS, vcCall, St.ev, St.put, lk, AVal.ofVal, initS, Nat.reduceLT, true_and, and_true, vPart, vLoad, vStore, vExt, vAlloc, vBuildSl, vSlice, bnd, partsA, fillA, decAll, AVal.flat, AVal.cell, cellsOk, setRange, ETy.enc, ETy.dec, ETy.sz, ETy.d, cond, Nat.reduceBEq, Nat.reduceAdd, Int.toNat_natCast, List.length_set, List.length_append, List.length_replicate, List.length_take, Nat.reduceSub, Nat.reduceEqDiff, get_loc, setBox_loc, next_eq, List.length_cons, List.length_nil, List.map_cons, List.map_nil, List.append_nil, List.nil_append, List.cons_append, List.set_cons_zero, List.set_cons_succ, getD_zero, getD_succ, List.getElem?_cons_succ, List.getElem?_cons_zero, List.take_succ_cons, List.take_zero, List.drop_succ_cons, List.all_cons, List.all_nil, Bool.and_true, Bool.true_and, Option.bind_some, Option.map_some, Option.map_none, decide_eq_true_eq, decide_eq_false_iff_not, ne_eq, Bool.not_eq_true, Bool.not_eq_false, Decidable.not_not, not_true_eq_false, not_false_eq_true, forall_const, false_implies, Bool.true_eq_false, Bool.false_eq_true, reduceCtorEq, decide_true, decide_false, Bool.not_true, Bool.not_false, if_true, if_false, Nat.zero_add, Nat.lt_irrefl, Value.oneCell', gt_iff_lt, Nat.reduceLeDiff, Nat.lt_add_one, vSealSl, vMakeMap, vLookup, vMapUpd, vMapEnt, vEntSt, vRange, vEntry, KK.of, KK.av, lkRes, entry_last, vvar_1, vzero_1, vvar_4, vzero_4, vknd_4, vsn_4, vsl_28, vkn_28, vvar_28, vzero_28, vvar_33, vzero_33, vbld_33, vpts_33, vvar_54, vzero_54, vmp_54, hgb]; try simp (disch := omega) only [wrap64]) | (with_reducible refine hK' _ ?_; clear hK' K') | (with_reducible refine hK _ ?_; clear hK K) | (with_reducible first | refine And.intro (And.intro rfl rfl) ?_ | refine And.intro (by omega) ?_) | (with_reducible refine And.intro (fun hg => ?_) (fun hg => ?_) <;> first | simp only [eq_false hg, decide_true, decide_false, and_true, true_and, and_false, false_and, not_true_eq_false, not_false_eq_true] | simp only [eq_true hg, decide_true, decide_false, and_true, true_and, and_false, false_and, not_true_eq_false, not_false_eq_true] | simp only [hg, decide_true, decide_false, and_true, true_and, and_false, false_and, not_true_eq_false, not_false_eq_true]) | (with_reducible first | refine And.intro rfl (And.intro rfl rfl) | refine thenQ_n ?_ | refine thenQ_exit ?_ | refine thenQ_ret ?_ | refine midQ_ret ?_ | refine midQ_exit ?_ | refine blockQ_same ?_ | refine blockQ_ne (by decide) ?_ | refine blockQ_ret ?_ | refine blockQ_n ?_ | refine AW.exit ?_ | refine AW.block ?_ | refine AW.cond_t rfl ?_ | refine AW.cond_f rfl ?_ | refine AW.cond_dec rfl (fun hc => ?_) (fun hc => ?_)) | (with_reducible refine AW.cond rfl (fun hc => ?_) (fun hc => ?_) <;> try simp only [Bool.not_eq_eq_eq_not, Bool.not_true, Bool.not_false, decide_eq_true_eq, decide_eq_false_iff_not] at hc) | (with_reducible first | refine AW.seq ?_ | refine AW.skip ?_ | refine AW.ret ?_ | refine And.intro ?_ ?_) | (with_reducible intro hg; first | simp only [eq_false hg, decide_true, decide_false, and_true, true_and, and_false, false_and, not_true_eq_false, not_false_eq_true] | simp only [eq_true hg, decide_true, decide_false, and_true, true_and, and_false, false_and, not_true_eq_false, not_false_eq_true]) | (with_reducible refine retQ_drop ?_; simp only [vRes, packRes, vLoad, vPart, lk, cond, Nat.reduceBEq, get_loc, getD_zero, getD_succ, true_and, List.length_cons, List.length_nil, Nat.reduceAdd, Nat.reduceLT, Nat.reduceLeDiff, List.take_succ_cons, List.take_zero, List.drop_succ_cons, List.drop_zero, vvar_1, vzero_1, vvar_4, vzero_4, vknd_4, vsn_4, vsl_28, vkn_28, vvar_28, vzero_28, vvar_33, vzero_33, vbld_33, vpts_33, vvar_54, vzero_54, vmp_54]) )
  refine vNext_base rfl hkc hel.symm (fun q e hq hns => ?_) (fun hall => ?_)
  · obtain ⟨e1, e2⟩ := entP_get hq
    have hql : q < ks.length := (List.getElem?_eq_some_iff.1 e1).1
    have hge : ks.getD q (0, 0) = e.1 := by simp only [List.getD]; rw [e1]; rfl
    have hn' : (seen ++ [q]).Nodup := by
      rw [List.nodup_append]
      exact ⟨hn, by simp, fun a ha b hb h => hns (by rw [List.mem_singleton.1 hb] at h; exact h ▸ ha)⟩
    have hlt' : ∀ x ∈ seen ++ [q], x < ks.length := fun x hx => by
      rcases List.mem_append.1 hx with h | h
      · exact hlt x h
      · rw [List.mem_singleton.1 h]; exact hql
    have hsl' := seen_le hn' hlt'
    have htk : (metP ks seen).take seen.length = metP ks seen := List.take_of_length_le (by omega)
    rw [List.length_append, List.length_singleton] at hsl'
    repeat' (first | (with_reducible first | refine AW.sreg envOk fun K hK => ?_ | refine AW.region envOk fun K hK => ?_ | refine vcL_nil ?_) | (with_reducible (first | refine vcL_cons fun K' hK' => ?_); simp only [isC, Bool.false_or, Bool.or_true, vAppend, elems, ↓reduceDIte, List.take_length, Nat.le_refl, List.drop_zero, vGuard, undef, Bool.not_eq_eq_eq_not, dstOk, vcOp, vcF, isPure, putS, vcCall, St.ev, St.put, lk, AVal.ofVal, initS, Nat.reduceLT, true_and, and_true, vPart, vLoad, vStore, vExt, vAlloc, vBuildSl, vSlice, bnd, partsA, fillA, decAll, AVal.flat, AVal.cell, cellsOk, setRange, ETy.enc, ETy.dec, ETy.sz, ETy.d, cond, Nat.reduceBEq, Nat.reduceAdd, Int.toNat_natCast, List.length_set, List.length_append, List.length_replicate, List.length_take, Nat.reduceSub, Nat.reduceEqDiff, get_loc, setBox_loc, next_eq, List.length_cons, List.length_nil, List.map_cons, List.map_nil, List.append_nil, List.nil_append, List.cons_append, List.set_cons_zero, List.set_cons_succ, getD_zero, getD_succ, List.getElem?_cons_succ, List.getElem?_cons_zero, List.take_succ_cons, List.take_zero, List.drop_succ_cons, List.all_cons, List.all_nil, Bool.and_true, Bool.true_and, Option.bind_some, Option.map_some, Option.map_none, decide_eq_true_eq, decide_eq_false_iff_not, ne_eq, Bool.not_eq_true, Bool.not_eq_false, Decidable.not_not, not_true_eq_false, not_false_eq_true, forall_const, false_implies, Bool.true_eq_false, Bool.false_eq_true, reduceCtorEq, decide_true, decide_false, Bool.not_true, Bool.not_false, if_true, if_false, Nat.zero_add, Nat.lt_irrefl, Value.oneCell', gt_iff_lt, Nat.reduceLeDiff, Nat.lt_add_one, vSealSl, vMakeMap, vLookup, vMapUpd, vMapEnt, vEntSt, vRange, vEntry, KK.of, KK.av, lkRes, entry_last, vvar_1, vzero_1, vvar_4, vzero_4, vknd_4, vsn_4, vsl_28, vkn_28, vvar_28, vzero_28, vvar_33, vzero_33, vbld_33, vpts_33, vvar_54, vzero_54, vmp_54, hgb, hq, hml, htk]; try simp (disch := omega) only [wrap64]) | (with_reducible refine hK' _ ?_; clear hK' K') | (with_reducible refine hK _ ?_; clear hK K) | (with_reducible first | refine And.intro (And.intro rfl rfl) ?_ | refine And.intro (by omega) ?_) | (with_reducible refine And.intro (fun hg => ?_) (fun hg => ?_) <;> first | simp only [eq_false hg, decide_true, decide_false, and_true, true_and, and_false, false_and, not_true_eq_false, not_false_eq_true] | simp only [eq_true hg, decide_true, decide_false, and_true, true_and, and_false, false_and, not_true_eq_false, not_false_eq_true] | simp only [hg, decide_true, decide_false, and_true, true_and, and_false, false_and, not_true_eq_false, not_false_eq_true]) | (with_reducible first | refine And.intro rfl (And.intro rfl rfl) | refine thenQ_n ?_ | refine thenQ_exit ?_ | refine thenQ_ret ?_ | refine midQ_ret ?_ | refine midQ_exit ?_ | refine blockQ_same ?_ | refine blockQ_ne (by decide) ?_ | refine blockQ_ret ?_ | refine blockQ_n ?_ | refine AW.exit ?_ | refine AW.block ?_ | refine AW.cond_t rfl ?_ | refine AW.cond_f rfl ?_ | refine AW.cond_dec rfl (fun hc => ?_) (fun hc => ?_)) | (with_reducible refine AW.cond rfl (fun hc => ?_) (fun hc => ?_) <;> try simp only [Bool.not_eq_eq_eq_not, Bool.not_true, Bool.not_false, decide_eq_true_eq, decide_eq_false_iff_not] at hc) | (with_reducible first | refine AW.seq ?_ | refine AW.skip ?_ | refine AW.ret ?_ | refine And.intro ?_ ?_) | (with_reducible intro hg; first | simp only [eq_false hg, decide_true, decide_false, and_true, true_and, and_false, false_and, not_true_eq_false, not_false_eq_true] | simp only [eq_true hg, decide_true, decide_false, and_true, true_and, and_false, false_and, not_true_eq_false, not_false_eq_true]) | (with_reducible refine retQ_drop ?_; simp only [vRes, packRes, vLoad, vPart, lk, cond, Nat.reduceBEq, get_loc, getD_zero, getD_succ, true_and, List.length_cons, List.length_nil, Nat.reduceAdd, Nat.reduceLT, Nat.reduceLeDiff, List.take_succ_cons, List.take_zero, List.drop_succ_cons, List.drop_zero, vvar_1, vzero_1, vvar_4, vzero_4, vknd_4, vsn_4, vsl_28, vkn_28, vvar_28, vzero_28, vvar_33, vzero_33, vbld_33, vpts_33, vvar_54, vzero_54, vmp_54]) )
    all_goals first
      | (exfalso; omega)
      | skip
    refine ⟨seen ++ [q], ⟨hn', hlt'⟩, by rw [List.length_append, List.length_singleton]; omega, ?_⟩
    rw [metP_snoc, hge]
    simp only [List.length_append, List.length_singleton]
    exact Weak.sel [4, 1] hB (by decide) ⟨RenB.plRow rfl, by simp, .low hkl, by simp, trivial⟩ (by (repeat' (first | exact trivial | exact RenV.ptr rfl | exact RenV.sl rfl | exact RenV.mp rfl | exact RenV.it rfl | exact RenV.low (.v _) | exact RenV.low (IdsLt.ptr (by assumption)) | (refine RenV.pl ?_; (repeat' (first | exact Pl.v _ | exact Pl.junk | exact Pl.rd rfl _ | exact pl_nil | refine pl_cons ?_ ?_ | refine Pl.agg ?_ | refine Pl.tup ?_ | refine Pl.rp ?_ | refine Pl.fn ?_)); (first | done | fail)) | refine RenV.fnL ?_ | refine RenV.aggL ?_ | refine And.intro ?_ ?_)); (first | done | fail))
  · rw [hel] at hall
    have hmm := metP_mem hlt hall
    have hpos : 0 < (metP ks seen).length := by
      rw [hml]
      exact List.length_pos_of_mem (hall 0 h0)
    have hse := isSet_perm hmm hset
    have hml2 := hml.symm
    repeat' (first | (with_reducible first | refine AW.sreg envOk fun K hK => ?_ | refine AW.region envOk fun K hK => ?_ | refine vcL_nil ?_) | (with_reducible (first | refine vcL_cons fun K' hK' => ?_); simp only [isC, Bool.false_or, Bool.or_true, vAppend, elems, ↓reduceDIte, List.take_length, Nat.le_refl, List.drop_zero, vGuard, undef, Bool.not_eq_eq_eq_not, dstOk, vcOp, vcF, isPure, putS, vcCall, St.ev, St.put, lk, AVal.ofVal, initS, Nat.reduceLT, true_and, and_true, vPart, vLoad, vStore, vExt, vAlloc, vBuildSl, vSlice, bnd, partsA, fillA, decAll, AVal.flat, AVal.cell, cellsOk, setRange, ETy.enc, ETy.dec, ETy.sz, ETy.d, cond, Nat.reduceBEq, Nat.reduceAdd, Int.toNat_natCast, List.length_set, List.length_append, List.length_replicate, List.length_take, Nat.reduceSub, Nat.reduceEqDiff, get_loc, setBox_loc, next_eq, List.length_cons, List.length_nil, List.map_cons, List.map_nil, List.append_nil, List.nil_append, List.cons_append, List.set_cons_zero, List.set_cons_succ, getD_zero, getD_succ, List.getElem?_cons_succ, List.getElem?_cons_zero, List.take_succ_cons, List.take_zero, List.drop_succ_cons, List.all_cons, List.all_nil, Bool.and_true, Bool.true_and, Option.bind_some, Option.map_some, Option.map_none, decide_eq_true_eq, decide_eq_false_iff_not, ne_eq, Bool.not_eq_true, Bool.not_eq_false, Decidable.not_not, not_true_eq_false, not_false_eq_true, forall_const, false_implies, Bool.true_eq_false, Bool.false_eq_true, reduceCtorEq, decide_true, decide_false, Bool.not_true, Bool.not_false, if_true, if_false, Nat.zero_add, Nat.lt_irrefl, Value.oneCell', gt_iff_lt, Nat.reduceLeDiff, Nat.lt_add_one, vSealSl, vMakeMap, vLookup, vMapUpd, vMapEnt, vEntSt, vRange, vEntry, KK.of, KK.av, lkRes, entry_last, vvar_1, vzero_1, vvar_4, vzero_4, vknd_4, vsn_4, vsl_28, vkn_28, vvar_28, vzero_28, vvar_33, vzero_33, vbld_33, vpts_33, vvar_54, vzero_54, vmp_54, hgb]; try simp (disch := omega) only [wrap64]) | (with_reducible refine hK' _ ?_; clear hK' K') | (with_reducible refine hK _ ?_; clear hK K) | ((with_reducible show vCall _ (AVal.fn 52 _) _ _ _); refine vCall_newE (AC.lentN (args' := [.rd .pt (metP ks seen)]) (by simp only [killAll_length, List.length_append, List.length_cons, List.length_nil, Nat.add_assoc, Nat.reduceAdd]; rfl) (by (repeat' (first | exact trivial | exact LentV.rowL rfl rfl rfl | exact LentV.rowL rfl rfl (by assumption) | refine LentV.boxL rfl ?_ | exact LentV.nil _ | exact LentV.same _ | refine LentV.aggL ?_ | refine And.intro ?_ ?_)); (first | done | fail)) (by (repeat' (first | exact NoRd.v _ | exact NoRd.sl | exact NoRd.mp | exact NoRd.tup nord_nil | refine NoRd.tup ?_ | refine NoRd.agg ?_ | exact nord_nil | refine nord_cons ?_ ?_)); (first | done | fail)) (by (repeat' (first | exact nordW_nil | refine nordW_cons ?_ ?_ | exact And.intro rfl rfl | exact trivial)); (first | done | fail)) (sorted105f_ac (metP ks seen) hpos (by omega) _)) rfl ?_) | (with_reducible first | refine And.intro (And.intro rfl rfl) ?_ | refine And.intro (by omega) ?_) | (with_reducible refine And.intro (fun hg => ?_) (fun hg => ?_) <;> first | simp only [eq_false hg, decide_true, decide_false, and_true, true_and, and_false, false_and, not_true_eq_false, not_false_eq_true] | simp only [eq_true hg, decide_true, decide_false, and_true, true_and, and_false, false_and, not_true_eq_false, not_false_eq_true] | simp only [hg, decide_true, decide_false, and_true, true_and, and_false, false_and, not_true_eq_false, not_false_eq_true]) | (with_reducible first | refine And.intro rfl (And.intro rfl rfl) | refine thenQ_n ?_ | refine thenQ_exit ?_ | refine thenQ_ret ?_ | refine midQ_ret ?_ | refine midQ_exit ?_ | refine blockQ_same ?_ | refine blockQ_ne (by decide) ?_ | refine blockQ_ret ?_ | refine blockQ_n ?_ | refine AW.exit ?_ | refine AW.block ?_ | refine AW.cond_t rfl ?_ | refine AW.cond_f rfl ?_ | refine AW.cond_dec rfl (fun hc => ?_) (fun hc => ?_)) | (with_reducible refine AW.cond rfl (fun hc => ?_) (fun hc => ?_) <;> try simp only [Bool.not_eq_eq_eq_not, Bool.not_true, Bool.not_false, decide_eq_true_eq, decide_eq_false_iff_not] at hc) | (with_reducible first | refine AW.seq ?_ | refine AW.skip ?_ | refine AW.ret ?_ | refine And.intro ?_ ?_) | (with_reducible intro hg; first | simp only [eq_false hg, decide_true, decide_false, and_true, true_and, and_false, false_and, not_true_eq_false, not_false_eq_true] | simp only [eq_true hg, decide_true, decide_false, and_true, true_and, and_false, false_and, not_true_eq_false, not_false_eq_true]) | (with_reducible refine retQ_drop ?_; simp only [vRes, packRes, vLoad, vPart, lk, cond, Nat.reduceBEq, get_loc, getD_zero, getD_succ, true_and, List.length_cons, List.length_nil, Nat.reduceAdd, Nat.reduceLT, Nat.reduceLeDiff, List.take_succ_cons, List.take_zero, List.drop_succ_cons, List.drop_zero, vvar_1, vzero_1, vvar_4, vzero_4, vknd_4, vsn_4, vsl_28, vkn_28, vvar_28, vzero_28, vvar_33, vzero_33, vbld_33, vpts_33, vvar_54, vzero_54, vmp_54]) )
    all_goals first
      | (exfalso; omega)
      | skip
    rw [hse]
    exact ⟨_, _, FinOk.keep [2] (L := [.row false .pt (setOf ks)]) hB (by decide) ⟨RenB.plRow rfl, by simp, trivial⟩ (RenV.sl (j := 0) rfl), rfl, rfl⟩
theorem Reach.isOpen {m : Mz} {f : Pt} (hf : OpenAt m f) {q : Pt} (h : Reach m f q) : OpenAt m q := by
  cases h with
  | here => exact hf
  | step _ k _ ho => exact ho
end Go.Proofs.Ytfkohliggbajkaa
end

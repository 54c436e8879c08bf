/- Texts of this seat that the law stands on, put together. No conditions. -/
import Derived.Lib.Walk
import Derived.StillTailTactics
import Derived.Lib.Hide
import Derived.Handy
import Derived.Test.YtlfhhgfhoddgpaaV9
section
namespace Go.Proofs.Ytlfhhgfhoddgpaa
open Go.Shelf Go.RowKit Go.Lib Go.Sort Go.Proofs
theorem cmp86 (x y : Int) (w : World) : Calls Try.prog 53 #[.int .i64 x, .int .i64 y] w fun e w' => e = .returned (.int .i64 (Lib.compareInt x y)) ∧ w' = w := AnyG.cmp_Compare_int cmpI64 x y w
theorem three_grow (W : World) (A B C : Obj) : (((W.alloc A).alloc B).drew.alloc C) = grow (W.drewN 1) (#[A] ++ #[B] ++ #[C]) := by
  rw [alloc_eq_grow, alloc_eq_grow, alloc_eq_grow, drew_grow, drew_grow, grow_grow, grow_grow, Array.append_assoc]; rfl
def orR (a b : Int) : Int := if a = 0 then b else a
set_option maxHeartbeats 1000000 in
set_option maxRecDepth 100000 in
theorem or85 (a b : Int) (blk cap : Nat) (w : World) (h0 : w.cell? { block := blk, off := 0 } = some (.int .i64 a)) (h1 : w.cell? { block := blk, off := 1 } = some (.int .i64 b)) : Calls Try.prog 52 #[.slice (some { block := blk, off := 0 }) 2 cap] w fun e w' => e = .returned (.int .i64 (orR a b)) ∧ w' = w := by
  go_enter Try.func52, Try.ntmps52
  go_wp2
  go_rounds 3
  all_goals go_ret
  all_goals (refine ⟨?_, rfl⟩; unfold orR; simp_all)
set_option maxHeartbeats 1000000 in
set_option maxRecDepth 100000 in
theorem closure80 (x y : Int × Int) (W : World) : Calls Try.prog 45 #[.agg #[.int .i64 x.1, .int .i64 x.2], .agg #[.int .i64 y.1, .int .i64 y.2]] W fun e w' => e = .returned (.int .i64 (orR (Lib.compareInt x.1 y.1) (Lib.compareInt x.2 y.2))) ∧ ∃ q os', w' = grow (W.drewN q) os' := by
  go_enter Try.func45, Try.ntmps45
  go_wp2
  generalize hw2 : (W.alloc (Obj.cells #[Value.int IntKind.i64 x.fst, Value.int IntKind.i64 x.snd] 29)).alloc (Obj.cells #[Value.int IntKind.i64 y.fst, Value.int IntKind.i64 y.snd] 29) = W2
  have h1 : W2.cell? { block := W.heap.size, off := 0 } = some (.int .i64 x.1) := by rw [← hw2]; simp only [World.cell?, World.alloc, Array.getElem?_push, Array.size_push]; simp
  have h2 : W2.cell? { block := W.heap.size, off := 1 } = some (.int .i64 x.2) := by rw [← hw2]; simp only [World.cell?, World.alloc, Array.getElem?_push, Array.size_push]; simp
  have h3 : W2.cell? { block := W.heap.size + 1, off := 0 } = some (.int .i64 y.1) := by rw [← hw2]; simp only [World.cell?, World.alloc, Array.getElem?_push, Array.size_push]; simp
  have h4 : W2.cell? { block := W.heap.size + 1, off := 1 } = some (.int .i64 y.2) := by rw [← hw2]; simp only [World.cell?, World.alloc, Array.getElem?_push, Array.size_push]; simp
  have Hw := Lib.hid hw2
  clear hw2
  have hsz : W2.heap.size = W.heap.size + 2 := by rw [← Hw.out]; simp
  have Hs := Lib.hid hsz
  clear hsz
  refine wp_region_still_tail 10 (by kernel_rfl) (by kernel_rfl) ?_
  simp only [List.take_succ_cons, List.take_zero, List.drop_succ_cons, List.drop_zero]
  still_step
  still_step
  still_step
  still_step
  still_call (cmp86 x.1 y.1 _)
  still_step
  still_step
  still_step
  still_step
  still_call (cmp86 x.2 y.2 _)
  refine wpStill_nil ?_
  change wpList _ _ _ _ _ W2.drew
  generalize hw3 : W2.drew = W3
  have Hw3 := Lib.hid hw3
  clear hw3
  have hor := or85 (Lib.compareInt x.1 y.1) (Lib.compareInt x.2 y.2) W3.heap.size 2 (W3.alloc (Obj.cells #[Value.int IntKind.i64 (Lib.compareInt x.1 y.1), Value.int IntKind.i64 (Lib.compareInt x.2 y.2)] 3)) (by simp only [World.cell?, World.alloc, Array.getElem?_push]; simp) (by simp only [World.cell?, World.alloc, Array.getElem?_push]; simp)
  go_wp2_with (go_at_call 52; refine hor.mono ?_; rintro e w' ⟨rfl, rfl⟩)
  go_ret
  have e1 := Hw.out
  have e2 := Hw3.out
  subst e1
  subst e2
  refine ⟨?_, 1, _, three_grow _ _ _ _⟩
  first | rfl | simp
end Go.Proofs.Ytlfhhgfhoddgpaa
end
section
set_option linter.unusedSimpArgs false
set_option linter.unusedVariables false
namespace Go.Eng
/-- A row of points rewritten, other blocks left. -/
theorem RelH.rewriteRow {c : Ctx} {H : List ABox} {w w' : World} (h : RelH c H w) {k : Nat} {xs ys : List (Int × Int)} {l : Loc} (hk : H[k]? = some (.row false .pt xs)) (hl : c.loc k = some l)
    {cells cells' : Array Value} {T : TypeId} (hb : w.heap[l.blk]? = some (.cells cells T (0, 0))) (hb' : w'.heap[l.blk]? = some (.cells cells' T (0, 0))) (hsz : cells'.size = cells.size)
    (hoth : ∀ b, b ≠ l.blk → b < w.heap.size → w'.heap[b]? = w.heap[b]?) (hos : w'.os = w.os) (ht : w'.tape = w.tape) (ho : w'.output = w.output) (hlen : ys.length = xs.length)
    (hc : ∀ i, i < ys.length → cells'[l.off + i * 2 + 0]? = some (.int .i64 (ys.getD i (0, 0)).1) ∧ cells'[l.off + i * 2 + 1]? = some (.int .i64 (ys.getD i (0, 0)).2)) : RelH c (H.set k (.row false .pt ys)) w' := by
  obtain ⟨l2, hl2, cells2, T2, g1, g2, g3, g4, g5⟩ := h.box k _ hk rfl
  rw [hl] at hl2; cases hl2
  rw [hb] at g1; cases g1
  have hseal : c.sealed l.blk = none := g2
  have hkl : k < H.length := (List.getElem?_eq_some_iff.1 hk).1
  have live : ∀ (q : Nat) (X : ABox), (H.set k (.row false .pt ys))[q]? = some X → X.live = true → ∃ X0, H[q]? = some X0 ∧ X0.live = true := fun q X hq hX => by
    by_cases e : q = k
    · subst e; exact ⟨_, hk, rfl⟩
    · rw [List.getElem?_set_ne (Ne.symm e)] at hq; exact ⟨X, hq, hX⟩
  refine ⟨hos.trans h.os, ht.trans h.tape, ho.trans h.output, fun b o hbo => ?_, fun q hq => h.dom q (by simpa using hq), fun q X hq hX => ?_, fun q q' a a' X X' h1 h2 h3 h4 h5 h6 h7 => ?_⟩
  · have hw := h.sealed b o hbo
    have hne : b ≠ l.blk := fun e => by rw [e, hseal] at hbo; cases hbo
    rw [hoth b hne (Array.getElem?_eq_some_iff.1 hw).1]; exact hw
  · by_cases e : q = k
    · subst e
      rw [List.getElem?_set_self hkl] at hq
      cases hq
      refine ⟨l, hl, cells', T, hb', g2, by rw [hsz]; exact g3, by rw [hlen]; exact g4, fun i j hi hj => ?_⟩
      have hj' : j < 2 := hj
      have := hc i hi
      match j, hj' with
      | 0, _ => exact ⟨_, this.1, .v _⟩
      | 1, _ => exact ⟨_, this.2, .v _⟩
    · rw [List.getElem?_set_ne (Ne.symm e)] at hq
      obtain ⟨a, ha, hB⟩ := h.box q X hq hX
      have hne : a.blk ≠ l.blk := fun eb => e (h.inj q k a l X _ hq hX hk rfl ha hl eb)
      exact ⟨a, ha, hB.carry (.refl c) (fun _ => hoth _ hne (hB.blk_lt hX)) (fun _ => rfl)⟩
  · obtain ⟨X0, g6, g7⟩ := live q X h1 h2
    obtain ⟨X1, g8, g9⟩ := live q' X' h3 h4
    exact h.inj q q' a a' X0 X1 g6 g7 g8 g9 h5 h6 h7
end Go.Eng
end
section
set_option linter.unusedSimpArgs false
set_option linter.unusedVariables false
set_option maxHeartbeats 1000000
namespace Go.Proofs.Ytlfhhgfhoddgpaa
open Go.Shelf Go.RowKit Go.Lib Go.Sort Go.Proofs Go.Eng
def encP (x : Int × Int) : List Value := [.int .i64 x.1, .int .i64 x.2]
def cfP (x y : Int × Int) : Int := orR (Lib.compareInt x.1 y.1) (Lib.compareInt x.2 y.2)
theorem cmpLays80 (blk off size : Nat) (w : World) : CmpLays Try.prog 45 #[] encP 2 cfP blk off size w := fun _ _ _ _ x y => closure80 x y _
theorem ltOf_cfP (x y : Int × Int) : ltOf cfP x y = decide (ltP x y) := by
  unfold ltOf cfP orR Lib.compareInt ltP
  by_cases h1 : x.1 < y.1
  · simp [h1]
  · by_cases h2 : y.1 < x.1
    · have : ¬ x.1 = y.1 := by omega
      simp [h1, h2, this]
    · have e : x.1 = y.1 := by omega
      by_cases h3 : x.2 < y.2
      · simp [h1, h2, h3, e]
      · by_cases h4 : y.2 < x.2 <;> simp [h1, h2, h3, h4, e]
theorem swoP : SWO (ltOf cfP) where
  irrefl x := by rw [ltOf_cfP]; simp [ltP]
  trans x y z h1 h2 := by
    rw [ltOf_cfP] at h1 h2 ⊢
    have h1 := of_decide_eq_true h1
    have h2 := of_decide_eq_true h2
    exact decide_eq_true (by unfold ltP at *; omega)
  ntrans x y z h1 h2 := by
    rw [ltOf_cfP] at h1 h2 ⊢
    have h1 := of_decide_eq_false h1
    have h2 := of_decide_eq_false h2
    exact decide_eq_false (by unfold ltP at *; omega)
theorem sw_heap (w : World) (blk off n : Nat) (d : Array (Int × Int)) (os : Array Obj) {b : Nat} (hb : b < w.heap.size) : (sortWorldK encP 2 w blk off n d os).heap[b]? = if blk = b then (w.heap[b]?).map (onCells (putCells id off (flatK encP 2 d))) else w.heap[b]? := by
  show ((w.heap.modify blk (onCells (putCells id off (flatK encP 2 d)))) ++ os)[b]? = _
  rw [Array.getElem?_append_left (by simpa using hb), Array.getElem?_modify]
theorem agg29 (w : World) : (isAgg 29).run Try.prog w = .ok true w := by kernel_rfl
theorem size29 (w : World) : (Go.sizeOf 29).run Try.prog w = .ok 2 w := by kernel_rfl
theorem flat_at (d : Array (Int × Int)) (i : Nat) (hi : i < d.size) : (flatK encP 2 d)[i * 2 + 0]! = .int .i64 d[i]!.1 ∧ (flatK encP 2 d)[i * 2 + 1]! = .int .i64 d[i]!.2 := by
  constructor
  · rw [get_flatK encP 2 d _ (by omega), show (i * 2 + 0) / 2 = i by omega, show (i * 2 + 0) % 2 = 0 by omega]; rfl
  · rw [get_flatK encP 2 d _ (by omega), show (i * 2 + 1) / 2 = i by omega, show (i * 2 + 1) % 2 = 1 by omega]; rfl
theorem sort118_ac (xs : List (Int × Int)) (h0 : 0 < xs.length) (hx : xs.length < 1000000) (l : List ABox) (j : Nat) (hj : l[j]? = some (.row false .pt xs)) (H : List ABox) :
    AC Try.prog 44 [.sl 2 (H.length + j) 0 xs.length, .fn 45 []] (H ++ l) (fun r H' => ∃ ys : List (Int × Int), (ys.Perm xs ∧ ys.Pairwise (fun a b => ¬ ltP b a)) ∧ r = .v (.tuple #[]) ∧ H' = H ++ l.set j (.row false .pt ys)) := by
  refine ⟨⟨_, Try.func44, rfl, by decide⟩, fun c vs w hv hh => ?_⟩
  obtain ⟨hl, hv⟩ := hv
  match vs, hl with
  | [p, q], _ =>
    have e1 := hv 0 (by simp)
    have e2 := hv 1 (by simp)
    simp at e1 e2
    have hget : (H ++ l)[H.length + j]? = some (.row false .pt xs) := by rw [List.getElem?_append_right (by omega), Nat.add_sub_cancel_left]; exact hj
    obtain ⟨loc, hloc, cells, T, g1, g2, g3, g4, g5⟩ := hh.box _ _ hget rfl
    have hcells : ∀ i, i < xs.length → cells[loc.off + i * 2 + 0]? = some (.int .i64 (xs.getD i (0, 0)).1) ∧ cells[loc.off + i * 2 + 1]? = some (.int .i64 (xs.getD i (0, 0)).2) := fun i hi => by
      obtain ⟨u, hu, hr⟩ := g5 i 0 hi (by decide)
      obtain ⟨u', hu', hr'⟩ := g5 i 1 hi (by decide)
      have := hr.v_inv
      have := hr'.v_inv
      subst_vars
      exact ⟨hu, hu'⟩
    cases e2 with
    | @fn _ _ vs hl _ =>
      have : vs = [] := List.length_eq_zero_iff.1 hl.symm
      subst this
      cases e1 with
      | @sl _ _ _ _ b o l2 hl2 hn ha =>
        rw [hloc] at hl2; cases hl2
        obtain ⟨rfl, rfl⟩ := ha (by have : xs.length ≤ loc.cap := g4; omega)
        have hblk := (Array.getElem?_eq_some_iff.1 g1).1
        have hH : HoldsK encP 2 w loc.blk (loc.off + 0 * 2) xs.toArray := by
          intro t ht
          have ht' : t < xs.length * 2 := by simpa using ht
          obtain ⟨c0, c1⟩ := hcells (t / 2) (by omega)
          obtain ⟨f0, f1⟩ := flat_at xs.toArray (t / 2) (by simp; omega)
          have hd : xs.toArray[t / 2]! = xs.getD (t / 2) (0, 0) := by simp [List.getD, show t / 2 < xs.length by omega]
          rw [hd] at f0 f1
          refine ⟨?_, by simp [World.frozen?, g1]⟩
          simp only [World.cell?, g1]
          rcases Nat.mod_two_eq_zero_or_one t with h | h
          · rw [show t / 2 * 2 + 0 = t by omega] at f0
            rw [show loc.off + 0 * 2 + t = loc.off + t / 2 * 2 + 0 by omega, f0]
            exact c0
          · rw [show t / 2 * 2 + 1 = t by omega] at f1
            rw [show loc.off + 0 * 2 + t = loc.off + t / 2 * 2 + 1 by omega, f1]
            exact c1
        have eg : ∀ args w, (callFunc 45 args).run Try.prog w = .ok (.enter 45 args) w := enters_of Try.func45 (by kernel_rfl) rfl
        have h := AnyQ.slices_SortFunc sortPt 2 agg29 size29 encP (fun _ => rfl) (fun x v hv => by simp [encP] at hv; rcases hv with rfl | rfl <;> rfl) cfP swoP 45 #[] loc.blk (loc.off + 0 * 2) (loc.cap - 0) xs.toArray w eg (cmpLays80 loc.blk _ _ w) hH hblk (by simp; omega)
        change Calls Try.prog 44 #[.slice (some ⟨loc.blk, loc.off + 0 * 2, none⟩) xs.length (loc.cap - 0), .func (.func 45) #[] #[]] w _ at h
        refine h.mono ?_
        rintro e w' ⟨rfl, d', n, os, ⟨hs1, _, hp⟩, hs, rfl⟩
        have hsz : d'.size = xs.length := by simpa using hs1
        have hsl : d'.toList.length = xs.length := by simpa using hsz
        refine ⟨c, .v (.tuple #[]), _, (H ++ l).set (H.length + j) (.row false .pt d'.toList), .refl c, rfl, .v _, ?_, d'.toList, ⟨?_, ?_⟩, rfl, ?_⟩
        · have hme : (sortWorldK encP 2 w loc.blk (loc.off + 0 * 2) n d' os).heap[loc.blk]? = some (.cells (putCells id (loc.off + 0 * 2) (flatK encP 2 d') cells) T (0, 0)) := by
            rw [sw_heap w _ _ _ _ _ hblk, if_pos rfl, g1]; rfl
          refine hh.rewriteRow hget hloc g1 hme (by simp [putCells]) (fun b hb hlt => by rw [sw_heap w _ _ _ _ _ hlt, if_neg (Ne.symm hb)]) rfl rfl rfl hsl (fun i hi => ?_)
          have hi' : i < d'.size := by simpa using hi
          obtain ⟨f0, f1⟩ := flat_at d' i hi'
          have hd : d'[i]! = d'.toList.getD i (0, 0) := by simp [List.getD, hi']
          rw [hd] at f0 f1
          have hcap : loc.off + loc.cap * 2 ≤ cells.size := g3
          have hcp : xs.length ≤ loc.cap := g4
          have put : ∀ q, q < d'.size * 2 → (putCells id (loc.off + 0 * 2) (flatK encP 2 d') cells)[loc.off + q]? = some (flatK encP 2 d')[q]! := fun q hq => by
            unfold putCells
            rw [Array.getElem?_mapIdx, Array.getElem?_eq_getElem (by omega)]
            simp only [Option.map_some]
            rw [if_pos ⟨by omega, by rw [size_flatK]; omega⟩, show loc.off + q - (loc.off + 0 * 2) = q by omega]; rfl
          constructor
          · rw [show loc.off + i * 2 + 0 = loc.off + (i * 2 + 0) by omega, put _ (by omega), f0]
          · rw [show loc.off + i * 2 + 1 = loc.off + (i * 2 + 1) by omega, put _ (by omega), f1]
        · have e : d'.extract 0 xs.toArray.size = d' := by rw [← hs1]; simp
          rw [e] at hp
          simpa using hp
        · refine List.pairwise_iff_getElem.2 fun a b ha hb hab => ?_
          have h1 := hs a b (Nat.zero_le _) hab (by simp at hb; simp; omega)
          rw [ltOf_cfP] at h1
          have h1 := of_decide_eq_false h1
          have ha' : a < d'.size := by simpa using ha
          have hb' : b < d'.size := by simpa using hb
          simpa [ha', hb'] using h1
        · rw [List.set_append, if_neg (by omega), Nat.add_sub_cancel_left]
end Go.Proofs.Ytlfhhgfhoddgpaa
end
section
set_option linter.unusedSimpArgs false
set_option linter.unusedVariables false
namespace Go.Eng
variable {P : Program} {E : Env}
theorem run_eqNil {T et : TypeId} (hT : P.underlying T = some (.slice et)) (a : Option Addr) (n cp : Nat) (w : World) (xo yo : Operand) :
    (do eqGuard .eql T xo yo (.slice a n cp) (.slice none 0 0); binOp .eql T (.slice a n cp) (.slice none 0 0) : Sem Value).run P w = .ok (.bool a.isNone) w := by
  have heq : (Op.equal T (.slice a n cp) (.slice none 0 0)).run P w = .ok a.isNone w := by
    unfold Op.equal Op.maxDepth
    rw [show (10000 : Nat) = 9999 + 1 from rfl]
    unfold Op.equalIn
    simp only [Sem.run_bind, run_underlying hT, Result.andThen_ok]
    cases a <;> rfl
  have hg : (eqGuard .eql T xo yo (.slice a n cp) (.slice none 0 0)).run P w = .ok () w := by
    cases a <;> rfl
  rw [Sem.run_bind, hg]
  simp only [Result.andThen_ok, binOp, Sem.run_bind, heq, Sem.run_pure]
/-- A region that moves a list and asks whether it is nil. -/
theorem AW.regionNil (hE : EnvOk P E) {n : Nat} {Q : Exit → St → Prop} {st : St} {id : Nat} {o1 o2 : Oper} {e : ETy} {xs : List e.T} {T et : TypeId} {t d1 d2 : Nat} (hT : P.underlying T = some (.slice et))
    (h1 : o1.op = .move (.tmp t)) (g1 : o1.guard = none) (k1 : o1.dst = some d1) (h2 : o2.op = .binOp .eql T (.tmp d1) (.const (.slice none 0 0)) T) (g2 : o2.guard = none) (k2 : o2.dst = some d2)
    (hx : lk st.slots t = .rd e xs) (hd1 : d1 < st.N) (hd2 : d2 < st.N)
    (hf : Q .normal ((st.put (some d1) (.rd e xs)).put (some d2) (.v (.bool false)))) (ht : xs = [] → Q .normal ((st.put (some d1) (.rd e xs)).put (some d2) (.v (.bool true)))) : AW P n (.region id [o1, o2].toArray false) Q st := by
  intro c a w hst
  refine wp_region_lit ?_
  have hv := hst.rel.slots t
  rw [hx] at hv
  unfold wpList
  rw [if_pos (by simp [Region.wanted, g1])]
  refine .inl (wp_value (v := a.tmps.getD t undef) (w' := w) ?_ ?_)
  · simp [execOp, h1, Act.eval]
  have hst1 : RelSt st.base.length c (st.put o1.dst (.rd e xs)) (a.put o1.dst (a.tmps.getD t undef)) w := hst.rel.put (.refl c) o1.dst (by rw [k1]; intro q hq; cases hq; exact hd1) hv hst.rel.hn hst.rel.heap
  rw [k1] at hst1 ⊢
  unfold wpList
  rw [if_pos (by simp [Region.wanted, g2])]
  have hv1 := hst1.slots d1
  have hl : lk (st.put (some d1) (.rd e xs)).slots d1 = .rd e xs := by simp [St.put, lk]
  rw [hl] at hv1
  generalize hu : (a.put (some d1) (a.tmps.getD t undef)).tmps.getD d1 undef = u at hv1
  cases hv1 with
  | @rd _ _ ad cp nn g hln hcp ha hr =>
    have hrun := run_eqNil hT ad nn cp w (.tmp d1) (.const (.slice none 0 0))
    refine .inl (wp_value (v := .bool ad.isNone) (w' := w) ?_ ?_)
    · have e1 : (a.put (some d1) (a.tmps.getD t undef)).eval (.tmp d1) = .slice ad nn cp := hu
      have e2 : (a.put (some d1) (a.tmps.getD t undef)).eval (.const (.slice none 0 0)) = .slice none 0 0 := rfl
      simp only [execOp, h2, e1, e2]
      rw [Sem.run_bind, hrun]; rfl
    · have hst2 : ∀ b, RelSt st.base.length c ((st.put (some d1) (.rd e xs)).put (some d2) (.v (.bool b))) ((a.put (some d1) (a.tmps.getD t undef)).put (some d2) (.bool b)) w := fun b => hst1.put (.refl c) (some d2) (by intro q hq; cases hq; exact hd2) (.v _) hst1.hn hst1.heap
      rw [k2]
      unfold wpList
      cases ad with
      | none =>
        have : xs = [] := by
          rcases Nat.eq_zero_or_pos nn with h | h
          · rw [h] at hln; exact List.length_eq_zero_iff.1 hln
          · obtain ⟨b, o, cells, T', fr, he, _⟩ := ha h
            cases he
        exact ⟨c, _, .refl n c, .of hst.le (hst2 true), ht this⟩
      | some A => exact ⟨c, _, .refl n c, .of hst.le (hst2 false), hf⟩
end Go.Eng
end
section
set_option linter.unusedSimpArgs false
set_option linter.unusedVariables false
set_option maxHeartbeats 1000000
namespace Go.Proofs.Ytlfhhgfhoddgpaa
open Go.Eng
theorem clone117_ac (xs : List (Int × Int)) (h0 : 0 < xs.length) (hx : xs.length ≤ 1000000) (H : List ABox) : AC Try.prog 43 [.rd .pt (xs)] H (fun r H' => r = .sl 2 (H.length + 0) 0 xs.length ∧ H' = H ++ [.row false .pt xs]) := by
  refine AC.enter envOk Try.func43 rfl (by decide) Try.ntmps43 Try.results43 (by simp) fun hB => ?_
  refine AW.seq (AW.region envOk fun K hK => vcL_cons fun K' hK' => ?_)
  simp only [isC, Bool.false_or, Bool.or_true, vAppend, elems, ↓reduceDIte, List.take_length, Nat.le_refl, List.drop_zero, vGuard, undef, Bool.not_eq_eq_eq_not, dstOk, vcOp, vcF, isPure, putS, vcCall, St.ev, St.put, lk, AVal.ofVal, initS, Nat.reduceLT, true_and, and_true, vBin, vPart, vLoad, vBuildSl, vSlice, bnd, partsA, fillA, decAll, AVal.flat, AVal.cell, cellsOk, setRange, ETy.enc, ETy.dec, ETy.sz, ETy.d, cond, Nat.reduceBEq, Nat.reduceAdd, Int.toNat_natCast, List.length_set, List.length_append, List.length_replicate, List.length_take, Nat.reduceSub, Nat.reduceEqDiff, get_loc, setBox_loc, next_eq, List.length_cons, List.length_nil, List.map_cons, List.map_nil, List.append_nil, List.nil_append, List.cons_append, List.set_cons_zero, List.set_cons_succ, getD_zero, getD_succ, List.getElem?_cons_succ, List.getElem?_cons_zero, List.take_succ_cons, List.take_zero, List.drop_succ_cons, List.all_cons, List.all_nil, Bool.and_true, Bool.true_and, Option.bind_some, Option.map_some, Option.map_none, decide_eq_true_eq, decide_eq_false_iff_not, ne_eq, Bool.not_eq_true, Bool.not_eq_false, Decidable.not_not, not_true_eq_false, not_false_eq_true, forall_const, false_implies, Bool.true_eq_false, Bool.false_eq_true, reduceCtorEq, decide_true, decide_false, Bool.not_true, Bool.not_false, if_true, if_false, Nat.zero_add, Nat.lt_irrefl, Value.oneCell', gt_iff_lt, Nat.reduceLeDiff, Nat.lt_add_one, vSealSl, vvar_4, vzero_4, vknd_4, vsn_4, vsl_36, vkn_36, vvar_36, vzero_36]
  refine hK' _ (vcL_nil (hK _ (thenQ_n ?_)))
  clear hK' K' hK K
  refine AW.seq (AW.seq (AW.regionNil envOk (xs := xs) (e := .pt) Try.underlying36 rfl rfl rfl rfl rfl rfl rfl (show (3 : Nat) < 8 by decide) (show (4 : Nat) < 8 by decide) (thenQ_n ?_) (fun hnil => ?_)))
  · simp only [St.put]
    repeat' (first | (with_reducible first | refine AW.sreg envOk fun K hK => ?_ | refine AW.region envOk fun K hK => ?_ | refine vcL_nil ?_) | (with_reducible (first | refine vcL_cons fun K' hK' => ?_); simp only [isC, Bool.false_or, Bool.or_true, vAppend, elems, ↓reduceDIte, List.take_length, Nat.le_refl, List.drop_zero, vGuard, undef, Bool.not_eq_eq_eq_not, dstOk, vcOp, vcF, isPure, putS, vcCall, St.ev, St.put, lk, AVal.ofVal, initS, Nat.reduceLT, true_and, and_true, vBin, vPart, vLoad, vBuildSl, vSlice, bnd, partsA, fillA, decAll, AVal.flat, AVal.cell, cellsOk, setRange, ETy.enc, ETy.dec, ETy.sz, ETy.d, cond, Nat.reduceBEq, Nat.reduceAdd, Int.toNat_natCast, List.length_set, List.length_append, List.length_replicate, List.length_take, Nat.reduceSub, Nat.reduceEqDiff, get_loc, setBox_loc, next_eq, List.length_cons, List.length_nil, List.map_cons, List.map_nil, List.append_nil, List.nil_append, List.cons_append, List.set_cons_zero, List.set_cons_succ, getD_zero, getD_succ, List.getElem?_cons_succ, List.getElem?_cons_zero, List.take_succ_cons, List.take_zero, List.drop_succ_cons, List.all_cons, List.all_nil, Bool.and_true, Bool.true_and, Option.bind_some, Option.map_some, Option.map_none, decide_eq_true_eq, decide_eq_false_iff_not, ne_eq, Bool.not_eq_true, Bool.not_eq_false, Decidable.not_not, not_true_eq_false, not_false_eq_true, forall_const, false_implies, Bool.true_eq_false, Bool.false_eq_true, reduceCtorEq, decide_true, decide_false, Bool.not_true, Bool.not_false, if_true, if_false, Nat.zero_add, Nat.lt_irrefl, Value.oneCell', gt_iff_lt, Nat.reduceLeDiff, Nat.lt_add_one, vSealSl, vvar_4, vzero_4, vknd_4, vsn_4, vsl_36, vkn_36, vvar_36, vzero_36]; try simp (disch := omega) only [wrap64]) | (with_reducible refine hK' _ ?_; clear hK' K') | (with_reducible refine hK _ ?_; clear hK K) | (with_reducible first | refine And.intro (And.intro rfl rfl) ?_ | refine And.intro (by omega) ?_) | (with_reducible refine And.intro (fun hg => ?_) (fun hg => ?_) <;> first | simp only [eq_false hg, decide_true, decide_false, and_true, true_and, and_false, false_and, not_true_eq_false, not_false_eq_true] | simp only [eq_true hg, decide_true, decide_false, and_true, true_and, and_false, false_and, not_true_eq_false, not_false_eq_true] | simp only [hg, decide_true, decide_false, and_true, true_and, and_false, false_and, not_true_eq_false, not_false_eq_true]) | (with_reducible first | refine And.intro rfl (And.intro rfl rfl) | refine thenQ_n ?_ | refine thenQ_exit ?_ | refine thenQ_ret ?_ | refine midQ_ret ?_ | refine midQ_exit ?_ | refine blockQ_same ?_ | refine blockQ_ne (by decide) ?_ | refine blockQ_ret ?_ | refine blockQ_n ?_ | refine AW.exit ?_ | refine AW.block ?_ | refine AW.cond_t rfl ?_ | refine AW.cond_f rfl ?_ | refine AW.cond_dec rfl (fun hc => ?_) (fun hc => ?_)) | (with_reducible refine AW.cond rfl (fun hc => ?_) (fun hc => ?_) <;> try simp only [Bool.not_eq_eq_eq_not, Bool.not_true, Bool.not_false, decide_eq_true_eq, decide_eq_false_iff_not] at hc) | (with_reducible first | refine AW.seq ?_ | refine AW.skip ?_ | refine AW.ret ?_ | refine And.intro ?_ ?_) | (with_reducible intro hg; first | simp only [eq_false hg, decide_true, decide_false, and_true, true_and, and_false, false_and, not_true_eq_false, not_false_eq_true] | simp only [eq_true hg, decide_true, decide_false, and_true, true_and, and_false, false_and, not_true_eq_false, not_false_eq_true]) | (with_reducible refine retQ_drop ?_; simp only [vRes, packRes, vLoad, vPart, lk, cond, Nat.reduceBEq, get_loc, getD_zero, getD_succ, true_and, List.length_cons, List.length_nil, Nat.reduceAdd, Nat.reduceLT, Nat.reduceLeDiff, List.take_succ_cons, List.take_zero, List.drop_succ_cons, List.drop_zero, vvar_4, vzero_4, vknd_4, vsn_4, vsl_36, vkn_36, vvar_36, vzero_36]) )
    exact ⟨_, _, FinOk.keep [1] (L := [.row false .pt xs]) hB (by decide) ⟨RenB.plRow rfl, by simp, trivial⟩ (RenV.sl (j := 0) rfl), rfl, rfl⟩
  · subst hnil; simp at h0
end Go.Proofs.Ytlfhhgfhoddgpaa
end
section
set_option linter.unusedSimpArgs false
set_option linter.unusedVariables false
set_option maxHeartbeats 1000000
namespace Go.Proofs.Ytlfhhgfhoddgpaa
open Go.Eng
end Go.Proofs.Ytlfhhgfhoddgpaa
end
section
set_option linter.unusedSimpArgs false
set_option linter.unusedVariables false
namespace Go.Eng
variable {P : Program} {E : Env}
theorem vcL_ok2 (hE : EnvOk P E) (ops tail : List Oper) : ∀ (rest : List Oper) {n : Nat} {c : Ctx} {st : St} {a : Act} {w : World} (_ : RelSt n c st a w) {K : St → Prop} (_ : vcL P E ops rest st K)
    {Q : Exit → Act → World → Prop} (_ : ∀ c' st' a' w', Ext c c' → RelSt n c' st' a' w' → K st' → wpList P ops.toArray Q tail a' w'), wpList P ops.toArray Q (rest ++ tail) a w
  | [], n, c, st, a, w, hst, K, hk, Q, hQ => hQ c st a w (.refl c) hst hk
  | o :: rest, n, c, st, a, w, hst, K, hk, Q, hQ => by
    have run : (dstOk st.N o.dst ∧ vcOp P E o.op st (fun r b l => vcL P E ops rest (({ st with base := b, loc := l } : St).put o.dst r) K)) → o.wp P a w (wpList P ops.toArray Q (rest ++ tail)) Q := by
      rintro ⟨hd, hop⟩
      refine vcOp_ok hE hst hop fun c' v w' r b l he hr hh hb hkk => ?_
      exact vcL_ok2 hE ops tail rest (hst.put he o.dst (dstOk_lt hd) hr hb hh) hkk (fun c2 st2 a2 w2 he2 => hQ c2 st2 a2 w2 (he.trans he2))
    have skip : (dstOk st.N o.dst ∧ vcL P E ops rest (st.put o.dst (.v undef)) K) → wpList P ops.toArray Q (rest ++ tail) (a.put o.dst undef) w := by
      rintro ⟨hd, hop⟩
      exact vcL_ok2 hE ops tail rest (hst.put (.refl c) o.dst (dstOk_lt hd) (.v _) hst.hn hst.heap) hop hQ
    unfold vcL vGuard at hk
    show wpList P ops.toArray Q (o :: (rest ++ tail)) a w
    unfold wpList
    split at hk
    · rename_i hg
      rw [if_pos (by simp [Region.wanted, hg])]
      exact .inl (run hk)
    · rename_i j want hg
      split at hk
      · exact hk.elim
      · rename_i t ht
        obtain ⟨hlt, hk⟩ := hk
        have hy := yielded_of hst ht hlt
        have hv := hst.slots t
        split at hk
        · rename_i b hb
          rw [hb] at hv
          have hv' := hv.v_inv
          rw [hv'] at hy
          by_cases hbw : b = want
          · rw [if_pos (by simp [Region.wanted, hg, hy, hbw])]
            exact .inl (run (hk.1 hbw))
          · rw [if_neg (by simp [Region.wanted, hg, hy, hbw])]
            exact skip (hk.2 hbw)
        · rename_i vs hb
          rw [hb] at hv
          have hv' := hv.v_inv
          rw [hv'] at hy
          rw [if_neg (by simp [Region.wanted, hg, hy])]
          exact skip hk
        · exact hk.elim
/-- What a region's last operation does, said of the model itself. -/
def LastOk (P : Program) (o : Oper) (n : Nat) (Q : Exit → St → Prop) (st : St) : Prop :=
  ∀ c a w, RelN n c st a w → ∃ v w' c' st', (execOp a.eval o).run P w = .ok (.value v) w' ∧ ExtB n c c' ∧ RelN n c' st' (a.put o.dst v) w' ∧ Q .normal st'
theorem AW.regionLast (hE : EnvOk P E) {n : Nat} {Q : Exit → St → Prop} {st : St} {id : Nat} {l : List Oper} {o : Oper} (hg : o.guard = none)
    (h : ∀ K : St → Prop, (∀ st', LastOk P o n Q st' → K st') → vcL P E (l ++ [o]) l st K) : AW P n (.region id (l ++ [o]).toArray false) Q st := by
  intro c a w hst
  refine wp_region_lit (vcL_ok2 hE (l ++ [o]) [o] l hst.rel (h _ (fun _ h => h)) ?_)
  intro c' st' a' w' he hr hk
  obtain ⟨v, w2, c2, st2, h1, h2, h3, h4⟩ := hk c' a' w' (.of hst.le hr)
  unfold wpList
  rw [if_pos (by simp [Region.wanted, hg])]
  refine .inl (wp_value h1 ?_)
  unfold wpList
  exact ⟨c2, st2, (he.toB n).trans h2, h3, h4⟩
end Go.Eng
end
section
set_option linter.unusedSimpArgs false
set_option linter.unusedVariables false
namespace Go.Eng
variable {P : Program} {E : Env}
/-- The tail of a row of points, cleared. -/
def clr (xs : List (Int × Int)) (k : Nat) : List (Int × Int) := xs.take k ++ List.replicate (xs.length - k) (0, 0)
theorem clr_len {xs : List (Int × Int)} {k : Nat} (h : k ≤ xs.length) : (clr xs k).length = xs.length := by simp [clr]; omega
theorem setRow_other (w : World) (g b : Nat) (cs : Array Value) (h : b ≠ g) : (w.setRow g cs).heap[b]? = w.heap[b]? := by
  unfold World.setRow
  simp only
  rw [Array.getElem?_modify, if_neg (Ne.symm h)]
theorem zeroCells_pt (m : Nat) : (Builtin.zeroCells #[Value.int IntKind.i64 0, Value.int IntKind.i64 0] m).toList = List.replicate (m * 2) (.int .i64 0) := by
  apply List.ext_getElem
  · simp [Builtin.zeroCells]
  · intro i h1 h2
    simp only [Builtin.zeroCells, Array.toList_map, List.getElem_map, List.getElem_replicate]
    rcases Nat.mod_two_eq_zero_or_one i with h | h <;> simp [h]
theorem clear_last {n : Nat} {Q : Exit → St → Prop} {st : St} {o : Oper} {T et : TypeId} {t k off m : Nat} {xs : List (Int × Int)}
    (ho : o.op = .call { callee := .builtin .clear, args := #[.tmp t], argTypes := #[T] }) (hd : o.dst = none)
    (ht : lk st.slots t = .sl 2 k off m) (hbox : st.base[k]? = some (.row false .pt xs)) (hm : off + m = xs.length) (hu : P.underlying T = some (.slice et)) (hz : ∀ w, (zeroValue et).run P w = .ok (.agg #[.int .i64 0, .int .i64 0]) w)
    (hq : Q .normal { st with base := st.base.set k (.row false .pt (clr xs off)) }) : LastOk P o n Q st := by
  intro c a w hr
  have hkb : k < st.base.length := (List.getElem?_eq_some_iff.1 hbox).1
  have hget : (st.base ++ st.loc)[k]? = some (.row false .pt xs) := by rw [List.getElem?_append_left hkb]; exact hbox
  obtain ⟨loc, hloc, cells, T', g1, g2, g3, g4, g5⟩ := hr.rel.heap.box _ _ hget rfl
  have hv := hr.rel.slots t
  rw [ht] at hv
  generalize hu' : a.tmps.getD t undef = u at hv
  cases hv with
  | @sl _ _ _ _ b o2 l2 hl2 hn ha =>
    rw [hloc] at hl2; cases hl2
    have hex : ∀ v w', (Builtin.clear_ #[T] o.type #[.slice (some ⟨b, o2, none⟩) m (loc.cap - off)]).run P w = .ok v w' → (execOp a.eval o).run P w = .ok (.value v) w' := fun v w' h => by
      have e1 : a.eval (.tmp t) = .slice (some ⟨b, o2, none⟩) m (loc.cap - off) := hu'
      simp [execOp, ho, resolve, invoke, builtin, e1, h]
    rcases Nat.eq_zero_or_pos m with rfl | hmp
    · have hoff : clr xs off = xs := by unfold clr; rw [List.take_of_length_le (by omega), show xs.length - off = 0 by omega]; simp
      refine ⟨_, _, c, _, hex (.tuple #[]) w (by simp [Builtin.clear_, run_underlying hu]), .refl n c, ?_, hq⟩
      have hset : st.base.set k (.row false .pt (clr xs off)) = st.base := by rw [hoff]; exact set_same hbox
      rw [hset, hd]
      exact hr
    · obtain ⟨rfl, rfl⟩ := ha (by omega)
      have hcap : loc.off + loc.cap * 2 ≤ cells.size := g3
      have hcp : xs.length ≤ loc.cap := g4
      have hzc : (Builtin.zeroCells (Value.agg #[Value.int IntKind.i64 0, Value.int IntKind.i64 0]).cells m).toList = List.replicate (m * 2) (.int .i64 0) := zeroCells_pt m
      have hst := run_storeCells_at P loc.blk (loc.off + off * 2) T' (List.replicate (m * 2) (.int .i64 0)) 0 cells w g1 (by rw [List.length_replicate]; omega) (by intro v hv; rw [List.eq_of_mem_replicate hv]; rfl)
      simp only [Nat.add_zero] at hst
      have hfit : loc.off + off * 2 + (List.replicate (m * 2) (Value.int .i64 0)).length ≤ cells.size := by rw [List.length_replicate]; omega
      obtain ⟨q, rfl⟩ : ∃ q, m = q + 1 := ⟨m - 1, by omega⟩
      refine ⟨_, _, c, _, hex (.tuple #[]) _ (by simp only [Builtin.clear_]; simp [run_underlying hu, hz, hzc, hst]; rfl), .refl n c, ?_, hq⟩
      have hh := hr.rel.heap.rewriteRow (ys := clr xs off) hget hloc g1 (setRow_heap w _ _ (cells.toList.take (loc.off + off * 2) ++ List.replicate ((q + 1) * 2) (Value.int .i64 0) ++ cells.toList.drop (loc.off + off * 2 + (List.replicate ((q + 1) * 2) (Value.int .i64 0)).length)).toArray _ _ g1)
        (by simp only [List.size_toArray, List.length_append, List.length_take, List.length_drop, Array.length_toList]; omega)
        (fun b hb _ => setRow_other w _ b _ hb) rfl rfl rfl (clr_len (by omega)) (fun i hi => by
          rw [clr_len (by omega)] at hi
          rw [stored_get _ _ _ hfit, stored_get _ _ _ hfit, List.length_replicate]
          by_cases hio : i < off
          · have e : (clr xs off).getD i (0, 0) = xs.getD i (0, 0) := by
              unfold clr; simp only [List.getD]; rw [List.getElem?_append_left (by simp; omega), List.getElem?_take, if_pos hio]
            obtain ⟨u, hu0, hr0⟩ := g5 i 0 hi (by decide)
            obtain ⟨u', hu1, hr1⟩ := g5 i 1 hi (by decide)
            have h0 := hr0.v_inv
            have h1 := hr1.v_inv
            subst h0; subst h1
            rw [if_neg (by omega), if_neg (by omega), e]
            exact ⟨hu0, hu1⟩
          · have e : (clr xs off).getD i (0, 0) = (0, 0) := by
              unfold clr; simp only [List.getD]; rw [List.getElem?_append_right (by simp; omega), List.getElem?_replicate]
              split <;> rfl
            rw [if_pos (by omega), if_pos (by omega), e]
            constructor
            · simp only [List.getD, List.getElem?_replicate]; rw [if_pos (by omega)]; rfl
            · simp only [List.getD, List.getElem?_replicate]; rw [if_pos (by omega)]; rfl)
      rw [hd]
      refine ⟨by have := hr.le; simpa using this, hr.rel.defers, hr.rel.size, hr.rel.slots, ?_, rfl⟩
      show RelH c (st.base.set k (.row false .pt (clr xs off)) ++ st.loc) _
      rw [show st.base.set k (.row false .pt (clr xs off)) ++ st.loc = (st.base ++ st.loc).set k (.row false .pt (clr xs off)) by rw [List.set_append, if_pos hkb]]
      rw [List.length_replicate, List.append_assoc] at hh
      exact hh
end Go.Eng
end
section
set_option linter.unusedSimpArgs false
set_option linter.unusedVariables false
set_option maxHeartbeats 1000000
namespace Go.Proofs.Ytlfhhgfhoddgpaa
open Go.Eng
/-- The first i elements, of equal neighbours the first alone. -/
def compTo (zs : List (Int × Int)) : Nat → List (Int × Int)
  | 0 => []
  | i + 1 => if 0 < i ∧ zs.getD i (0, 0) = zs.getD (i - 1) (0, 0) then compTo zs i else compTo zs i ++ [zs.getD i (0, 0)]
theorem compTo_len (zs : List (Int × Int)) : ∀ i, (compTo zs i).length ≤ i
  | 0 => Nat.le_refl _
  | i + 1 => by
    unfold compTo
    have := compTo_len zs i
    split
    · omega
    · simp; omega
theorem take_snoc {zs : List (Int × Int)} {i : Nat} (h : i < zs.length) : zs.take (i + 1) = zs.take i ++ [zs.getD i (0, 0)] := by
  rw [List.take_add_one, List.getElem?_eq_getElem h]; simp [List.getD, h]
theorem set_take {cur : List (Int × Int)} {k : Nat} {v : Int × Int} (h : k < cur.length) : (cur.set k v).take (k + 1) = cur.take k ++ [v] := by
  rw [take_snoc (by simpa using h), List.take_set_of_le (Nat.le_refl k)]
  simp [List.getD, h]
theorem get_set_ne {cur : List (Int × Int)} {k i : Nat} {v : Int × Int} (h : k ≠ i) : (cur.set k v).getD i (0, 0) = cur.getD i (0, 0) := by
  simp only [List.getD]; rw [List.getElem?_set_ne h]
theorem AW.regionLast4 {n : Nat} {Q : Exit → St → Prop} {st : St} {id : Nat} {o1 o2 o3 o : Oper} (hg : o.guard = none)
    (h : ∀ K : St → Prop, (∀ st', LastOk Try.prog o n Q st' → K st') → vcL Try.prog env [o1, o2, o3, o] [o1, o2, o3] st K) : AW Try.prog n (.region id [o1, o2, o3, o].toArray false) Q st :=
  AW.regionLast (l := [o1, o2, o3]) envOk hg h
theorem compTo_small {zs : List (Int × Int)} (h : zs.length < 2) : compTo zs zs.length = zs := by
  match zs, h with
  | [], _ => rfl
  | [a], _ => rfl
theorem set_base {H l : List ABox} {j : Nat} {X Y : ABox} : (H ++ l.set j X).set (H.length + j) Y = H ++ l.set j Y := by
  rw [List.set_append, if_neg (by omega), Nat.add_sub_cancel_left, List.set_set]
theorem compTo_eq {zs : List (Int × Int)} {i : Nat} (h : 0 < i ∧ zs.getD i (0, 0) = zs.getD (i - 1) (0, 0)) : compTo zs (i + 1) = compTo zs i := by
  show (if _ then _ else _) = _
  rw [if_pos h]
theorem compTo_ne {zs : List (Int × Int)} {i : Nat} (h : ¬ zs.getD i (0, 0) = zs.getD (i - 1) (0, 0)) : compTo zs (i + 1) = compTo zs i ++ [zs.getD i (0, 0)] := by
  show (if _ then _ else _) = _
  rw [if_neg (fun h' => h h'.2)]
theorem comp120_ac (zs : List (Int × Int)) (hx : zs.length ≤ 1000000) (l : List ABox) (j : Nat) (hj : l[j]? = some (.row false .pt zs)) (H : List ABox) :
    AC Try.prog 46 [.sl 2 (H.length + j) 0 (zs.length)] (H ++ l) (fun r H' => ∃ ys : List (Int × Int), (ys.length = zs.length ∧ ys.take (compTo zs zs.length).length = compTo zs zs.length) ∧ r = .sl 2 (H.length + j) 0 ((compTo zs zs.length).length) ∧ H' = H ++ l.set j (.row false .pt ys)) := by
  have hjl : j < l.length := (List.getElem?_eq_some_iff.1 hj).1
  have hl : l.set j (.row false .pt zs) = l := set_same hj
  refine AC.enter envOk Try.func46 rfl (by decide) Try.ntmps46 Try.results46 (by simp) fun hB => ?_
  repeat' (first | (with_reducible first | refine AW.sreg envOk fun K hK => ?_ | refine AW.region envOk fun K hK => ?_) | (with_reducible refine AW.d0reg envOk mixed ?_ ?_ fun K hK => ?_; (first | rfl | exact base_len | exact base_len0); kernel_rfl) | (with_reducible refine AW.d0 envOk mixed ?_ ?_ fun K hK => ?_; (first | rfl | exact base_len | exact base_len0); kernel_rfl) | (with_reducible first | refine vcD_nil ?_ | refine vcL_nil ?_) | (with_reducible (first | refine vcD_cons fun K' hK' => ?_ | refine vcL_cons fun K' hK' => ?_); simp only [isC, Bool.false_or, Bool.or_true, ↓reduceDIte, List.take_length, Nat.le_refl, List.drop_zero, vGuard, undef, Bool.not_eq_eq_eq_not, dstOk, vcOp, vcF, isPure, putS, vcCall, St.ev, St.put, lk, AVal.ofVal, initS, Nat.reduceLT, true_and, and_true, vBin, vPart, vLoad, vStore, vIdxA, vLen, vSlice, bnd, AVal.flat, AVal.cell, cellsOk, setRange, ETy.enc, ETy.dec, ETy.sz, ETy.d, cond, Nat.reduceBEq, Nat.reduceAdd, Int.toNat_natCast, List.length_set, List.length_append, List.length_replicate, List.length_take, Nat.reduceSub, Nat.reduceEqDiff, get_loc, setBox_loc, next_eq, List.length_cons, List.length_nil, List.map_cons, List.map_nil, List.append_nil, List.nil_append, List.cons_append, List.set_cons_zero, List.set_cons_succ, getD_zero, getD_succ, List.getElem?_cons_succ, List.getElem?_cons_zero, List.take_succ_cons, List.take_zero, List.drop_succ_cons, List.all_cons, List.all_nil, Bool.and_true, Bool.true_and, Option.bind_some, Option.map_some, Option.map_none, decide_eq_true_eq, decide_eq_false_iff_not, ne_eq, Bool.not_eq_true, Bool.not_eq_false, Decidable.not_not, not_true_eq_false, not_false_eq_true, forall_const, false_implies, Bool.true_eq_false, Bool.false_eq_true, reduceCtorEq, decide_true, decide_false, Bool.not_true, Bool.not_false, if_true, if_false, Nat.zero_add, Nat.lt_irrefl, Value.oneCell', gt_iff_lt, Nat.reduceLeDiff, Nat.lt_add_one, vvar_3, vzero_3, vknd_3, vsn_3, vvar_4, vzero_4, vknd_4, vsn_4, vvar_29, vzero_29, vbld_29, vpts_29, vsl_36, vkn_36, vvar_36, vzero_36]; try simp (disch := omega) only [wrap64]) | (with_reducible refine hK' _ ?_; clear hK' K') | (with_reducible refine hK _ ?_; clear hK K) | (with_reducible first | refine And.intro (And.intro rfl rfl) ?_ | refine And.intro (by omega) ?_) | (with_reducible refine And.intro (fun hg => ?_) (fun hg => ?_) <;> first | simp only [eq_false hg, decide_true, decide_false, and_true, true_and, and_false, false_and, not_true_eq_false, not_false_eq_true] | simp only [eq_true hg, decide_true, decide_false, and_true, true_and, and_false, false_and, not_true_eq_false, not_false_eq_true] | simp only [hg, decide_true, decide_false, and_true, true_and, and_false, false_and, not_true_eq_false, not_false_eq_true]) | (with_reducible first | refine And.intro rfl (And.intro rfl rfl) | refine thenQ_n ?_ | refine thenQ_exit ?_ | refine thenQ_ret ?_ | refine midQ_ret ?_ | refine midQ_exit ?_ | refine blockQ_same ?_ | refine blockQ_ne (by decide) ?_ | refine blockQ_ret ?_ | refine blockQ_n ?_ | refine AW.exit ?_ | refine AW.block ?_ | refine AW.cond_t rfl ?_ | refine AW.cond_f rfl ?_ | refine AW.cond_dec rfl (fun hc => ?_) (fun hc => ?_)) | (with_reducible refine AW.cond rfl (fun hc => ?_) (fun hc => ?_) <;> try simp only [Bool.not_eq_eq_eq_not, Bool.not_true, Bool.not_false, decide_eq_true_eq, decide_eq_false_iff_not] at hc) | (with_reducible first | refine AW.seq ?_ | refine AW.skip ?_ | refine AW.ret ?_ | refine And.intro ?_ ?_) | (with_reducible intro hg; first | simp only [eq_false hg, decide_true, decide_false, and_true, true_and, and_false, false_and, not_true_eq_false, not_false_eq_true] | simp only [eq_true hg, decide_true, decide_false, and_true, true_and, and_false, false_and, not_true_eq_false, not_false_eq_true]) | (with_reducible refine retQ_drop ?_; simp only [vRes, packRes, vLoad, vPart, lk, cond, Nat.reduceBEq, get_loc, getD_zero, getD_succ, true_and, List.length_cons, List.length_nil, Nat.reduceAdd, Nat.reduceLT, Nat.reduceLeDiff, List.take_succ_cons, List.take_zero, List.drop_succ_cons, List.drop_zero, vvar_3, vzero_3, vknd_3, vsn_3, vvar_4, vzero_4, vknd_4, vsn_4, vvar_29, vzero_29, vbld_29, vpts_29, vsl_36, vkn_36, vvar_36, vzero_36]) )
  · have e := compTo_small (zs := zs) (by omega)
    exact ⟨_, _, FinOk.base, zs, ⟨rfl, by rw [e, List.take_length]⟩, by rw [e], by rw [hl]⟩
  refine AW.loop (fun k : Nat => (⟨61, [(0, .sl 2 (H.length + j) 0 (zs.length)), (3, .v (.int .i64 ((k : Int))))], H ++ l.set j (.row false .pt zs), []⟩ : St)) (fun k => (1 ≤ k ∧ k ≤ zs.length) ∧ compTo zs k = zs.take k) (fun k => zs.length - k) 1 ?_ ?_ ?_
  · refine ⟨⟨by omega, by omega⟩, ?_⟩
    rw [take_snoc (by omega)]; rfl
  · rw [hl]; exact (Weak.slots (by repeat' first | exact trivial | exact ⟨rfl, trivial⟩ | refine ⟨rfl, ?_⟩))
  intro k ⟨hk, hK⟩
  have hn2 : ((k : Int) - 1).toNat = k - 1 := by omega
  repeat' (first | (with_reducible first | refine AW.sreg envOk fun K hK => ?_ | refine AW.region envOk fun K hK => ?_) | (with_reducible refine AW.d0reg envOk mixed ?_ ?_ fun K hK => ?_; (first | rfl | exact base_len | exact base_len0); kernel_rfl) | (with_reducible refine AW.d0 envOk mixed ?_ ?_ fun K hK => ?_; (first | rfl | exact base_len | exact base_len0); kernel_rfl) | (with_reducible first | refine vcD_nil ?_ | refine vcL_nil ?_) | (with_reducible (first | refine vcD_cons fun K' hK' => ?_ | refine vcL_cons fun K' hK' => ?_); simp only [isC, Bool.false_or, Bool.or_true, ↓reduceDIte, List.take_length, Nat.le_refl, List.drop_zero, vGuard, undef, Bool.not_eq_eq_eq_not, dstOk, vcOp, vcF, isPure, putS, vcCall, St.ev, St.put, lk, AVal.ofVal, initS, Nat.reduceLT, true_and, and_true, vBin, vPart, vLoad, vStore, vIdxA, vLen, vSlice, bnd, AVal.flat, AVal.cell, cellsOk, setRange, ETy.enc, ETy.dec, ETy.sz, ETy.d, cond, Nat.reduceBEq, Nat.reduceAdd, Int.toNat_natCast, List.length_set, List.length_append, List.length_replicate, List.length_take, Nat.reduceSub, Nat.reduceEqDiff, get_bl, setBox_bl, next_bl, List.length_cons, List.length_nil, List.map_cons, List.map_nil, List.append_nil, List.nil_append, List.cons_append, List.set_cons_zero, List.set_cons_succ, getD_zero, getD_succ, List.getElem?_cons_succ, List.getElem?_cons_zero, List.take_succ_cons, List.take_zero, List.drop_succ_cons, List.all_cons, List.all_nil, Bool.and_true, Bool.true_and, Option.bind_some, Option.map_some, Option.map_none, decide_eq_true_eq, decide_eq_false_iff_not, ne_eq, Bool.not_eq_true, Bool.not_eq_false, Decidable.not_not, not_true_eq_false, not_false_eq_true, forall_const, false_implies, Bool.true_eq_false, Bool.false_eq_true, reduceCtorEq, decide_true, decide_false, Bool.not_true, Bool.not_false, if_true, if_false, Nat.zero_add, Nat.lt_irrefl, Value.oneCell', gt_iff_lt, Nat.reduceLeDiff, Nat.lt_add_one, vvar_3, vzero_3, vknd_3, vsn_3, vvar_4, vzero_4, vknd_4, vsn_4, vvar_29, vzero_29, vbld_29, vpts_29, vsl_36, vkn_36, vvar_36, vzero_36, get_set hjl, get_set0 hjl, set_again, hjl, Nat.zero_add, hn2]; try simp (disch := omega) only [wrap64]) | (with_reducible refine hK' _ ?_; clear hK' K') | (with_reducible refine hK _ ?_; clear hK K) | (with_reducible first | refine And.intro (And.intro rfl rfl) ?_ | refine And.intro (by omega) ?_) | (with_reducible refine And.intro (fun hg => ?_) (fun hg => ?_) <;> first | simp only [eq_false hg, decide_true, decide_false, and_true, true_and, and_false, false_and, not_true_eq_false, not_false_eq_true] | simp only [eq_true hg, decide_true, decide_false, and_true, true_and, and_false, false_and, not_true_eq_false, not_false_eq_true] | simp only [hg, decide_true, decide_false, and_true, true_and, and_false, false_and, not_true_eq_false, not_false_eq_true]) | (with_reducible first | refine And.intro rfl (And.intro rfl rfl) | refine thenQ_n ?_ | refine thenQ_exit ?_ | refine thenQ_ret ?_ | refine midQ_ret ?_ | refine midQ_exit ?_ | refine blockQ_same ?_ | refine blockQ_ne (by decide) ?_ | refine blockQ_ret ?_ | refine blockQ_n ?_ | refine AW.exit ?_ | refine AW.block ?_ | refine AW.cond_t rfl ?_ | refine AW.cond_f rfl ?_ | refine AW.cond_dec rfl (fun hc => ?_) (fun hc => ?_)) | (with_reducible refine AW.cond rfl (fun hc => ?_) (fun hc => ?_) <;> try simp only [Bool.not_eq_eq_eq_not, Bool.not_true, Bool.not_false, decide_eq_true_eq, decide_eq_false_iff_not] at hc) | (with_reducible first | refine AW.seq ?_ | refine AW.skip ?_ | refine AW.ret ?_ | refine And.intro ?_ ?_) | (with_reducible intro hg; first | simp only [eq_false hg, decide_true, decide_false, and_true, true_and, and_false, false_and, not_true_eq_false, not_false_eq_true] | simp only [eq_true hg, decide_true, decide_false, and_true, true_and, and_false, false_and, not_true_eq_false, not_false_eq_true]) | (with_reducible refine retQ_drop ?_; simp only [vRes, packRes, vLoad, vPart, lk, cond, Nat.reduceBEq, get_bl, getD_zero, getD_succ, true_and, List.length_cons, List.length_nil, Nat.reduceAdd, Nat.reduceLT, Nat.reduceLeDiff, List.take_succ_cons, List.take_zero, List.drop_succ_cons, List.drop_zero, vvar_3, vzero_3, vknd_3, vsn_3, vvar_4, vzero_4, vknd_4, vsn_4, vvar_29, vzero_29, vbld_29, vpts_29, vsl_36, vkn_36, vvar_36, vzero_36]) )
  · have heq : zs.getD k (0, 0) = zs.getD (k - 1) (0, 0) := by
      have h := ‹(zs.getD k (0, 0)).1 = _ ∧ _›
      exact Prod.ext h.1 h.2
    have hkn : k < zs.length := by omega
    refine AW.loop (fun z : Nat × Nat × List (Int × Int) => (⟨61, [(0, .sl 2 (H.length + j) 0 (zs.length)), (3, .v (.int .i64 ((z.2.1 : Int)))), (4, .sl 2 (H.length + j) k (zs.length - k)), (5, .v (.int .i64 ((z.1 : Int))))], H ++ l.set j (.row false .pt z.2.2), []⟩ : St)) (fun z => (1 ≤ z.1 ∧ k + z.1 ≤ zs.length) ∧ (k ≤ z.2.1 ∧ z.2.1 + 1 ≤ k + z.1) ∧ z.2.2.length = zs.length ∧ z.2.2.take z.2.1 = compTo zs (k + z.1) ∧ ∀ i, k + z.1 - 1 ≤ i → z.2.2.getD i (0, 0) = zs.getD i (0, 0)) (fun z => zs.length - (k + z.1)) (1, k, zs) ?_ ?_ ?_
    · exact ⟨⟨by simp only; omega, by simp only; omega⟩, ⟨by simp only; omega, by simp only; omega⟩, rfl, by simp only; rw [compTo_eq ⟨by omega, heq⟩, hK], fun i _ => rfl⟩
    · exact (Weak.slots (by repeat' first | exact trivial | exact ⟨rfl, trivial⟩ | refine ⟨rfl, ?_⟩))
    intro ⟨p, q, cur⟩ ⟨hp, hq, hlen, htk, hget⟩
    simp only at hp hq hlen htk hget ⊢
    have hn3 : ((p : Int) - 1).toNat = p - 1 := by omega
    have e1 := hget (k + p) (by omega)
    have e2 := hget (k + (p - 1)) (by omega)
    have e3 : k + (p - 1) = k + p - 1 := by omega
    repeat' (first | (with_reducible first | refine AW.seq (AW.regionLast4 (id := 14) rfl fun K hK => ?_) | refine AW.sreg envOk fun K hK => ?_ | refine AW.region envOk fun K hK => ?_) | (with_reducible refine AW.d0reg envOk mixed ?_ ?_ fun K hK => ?_; (first | rfl | exact base_len | exact base_len0); kernel_rfl) | (with_reducible refine AW.d0 envOk mixed ?_ ?_ fun K hK => ?_; (first | rfl | exact base_len | exact base_len0); kernel_rfl) | (with_reducible first | refine vcD_nil ?_ | refine vcL_nil ?_) | (with_reducible (first | refine vcD_cons fun K' hK' => ?_ | refine vcL_cons fun K' hK' => ?_); simp only [isC, Bool.false_or, Bool.or_true, ↓reduceDIte, List.take_length, Nat.le_refl, List.drop_zero, vGuard, undef, Bool.not_eq_eq_eq_not, dstOk, vcOp, vcF, isPure, putS, vcCall, St.ev, St.put, lk, AVal.ofVal, initS, Nat.reduceLT, true_and, and_true, vBin, vPart, vLoad, vStore, vIdxA, vLen, vSlice, bnd, AVal.flat, AVal.cell, cellsOk, setRange, ETy.enc, ETy.dec, ETy.sz, ETy.d, cond, Nat.reduceBEq, Nat.reduceAdd, Int.toNat_natCast, List.length_set, List.length_append, List.length_replicate, List.length_take, Nat.reduceSub, Nat.reduceEqDiff, get_bl, setBox_bl, next_bl, List.length_cons, List.length_nil, List.map_cons, List.map_nil, List.append_nil, List.nil_append, List.cons_append, List.set_cons_zero, List.set_cons_succ, getD_zero, getD_succ, List.getElem?_cons_succ, List.getElem?_cons_zero, List.take_succ_cons, List.take_zero, List.drop_succ_cons, List.all_cons, List.all_nil, Bool.and_true, Bool.true_and, Option.bind_some, Option.map_some, Option.map_none, decide_eq_true_eq, decide_eq_false_iff_not, ne_eq, Bool.not_eq_true, Bool.not_eq_false, Decidable.not_not, not_true_eq_false, not_false_eq_true, forall_const, false_implies, Bool.true_eq_false, Bool.false_eq_true, reduceCtorEq, decide_true, decide_false, Bool.not_true, Bool.not_false, if_true, if_false, Nat.zero_add, Nat.lt_irrefl, Value.oneCell', gt_iff_lt, Nat.reduceLeDiff, Nat.lt_add_one, vvar_3, vzero_3, vknd_3, vsn_3, vvar_4, vzero_4, vknd_4, vsn_4, vvar_29, vzero_29, vbld_29, vpts_29, vsl_36, vkn_36, vvar_36, vzero_36, get_set hjl, get_set0 hjl, set_again, hjl, Nat.zero_add, hn3, hlen, e1, e2]; try simp (disch := omega) only [wrap64]) | (with_reducible refine hK' _ ?_; clear hK' K') | (with_reducible refine hK _ ?_; clear hK K) | (with_reducible first | refine And.intro (And.intro rfl rfl) ?_ | refine And.intro (by omega) ?_) | (with_reducible refine And.intro (fun hg => ?_) (fun hg => ?_) <;> first | simp only [eq_false hg, decide_true, decide_false, and_true, true_and, and_false, false_and, not_true_eq_false, not_false_eq_true] | simp only [eq_true hg, decide_true, decide_false, and_true, true_and, and_false, false_and, not_true_eq_false, not_false_eq_true] | simp only [hg, decide_true, decide_false, and_true, true_and, and_false, false_and, not_true_eq_false, not_false_eq_true]) | (with_reducible first | refine And.intro rfl (And.intro rfl rfl) | refine thenQ_n ?_ | refine thenQ_exit ?_ | refine thenQ_ret ?_ | refine midQ_ret ?_ | refine midQ_exit ?_ | refine blockQ_same ?_ | refine blockQ_ne (by decide) ?_ | refine blockQ_ret ?_ | refine blockQ_n ?_ | refine AW.exit ?_ | refine AW.block ?_ | refine AW.cond_t rfl ?_ | refine AW.cond_f rfl ?_ | refine AW.cond_dec rfl (fun hc => ?_) (fun hc => ?_)) | (with_reducible refine AW.cond rfl (fun hc => ?_) (fun hc => ?_) <;> try simp only [Bool.not_eq_eq_eq_not, Bool.not_true, Bool.not_false, decide_eq_true_eq, decide_eq_false_iff_not] at hc) | (with_reducible first | refine AW.seq ?_ | refine AW.skip ?_ | refine AW.ret ?_ | refine And.intro ?_ ?_) | (with_reducible intro hg; first | simp only [eq_false hg, decide_true, decide_false, and_true, true_and, and_false, false_and, not_true_eq_false, not_false_eq_true] | simp only [eq_true hg, decide_true, decide_false, and_true, true_and, and_false, false_and, not_true_eq_false, not_false_eq_true]) | (with_reducible refine retQ_drop ?_; simp only [vRes, packRes, vLoad, vPart, lk, cond, Nat.reduceBEq, get_bl, getD_zero, getD_succ, true_and, List.length_cons, List.length_nil, Nat.reduceAdd, Nat.reduceLT, Nat.reduceLeDiff, List.take_succ_cons, List.take_zero, List.drop_succ_cons, List.drop_zero, vvar_3, vzero_3, vknd_3, vsn_3, vvar_4, vzero_4, vknd_4, vsn_4, vvar_29, vzero_29, vbld_29, vpts_29, vsl_36, vkn_36, vvar_36, vzero_36]) )
    · have hne : ¬ zs.getD (k + p) (0, 0) = zs.getD (k + p - 1) (0, 0) := fun h => by
        have h2 := ‹¬ ((zs.getD (k + p) (0, 0)).1 = _ ∧ _)›
        rw [e3] at h2
        exact h2 ⟨by rw [h], by rw [h]⟩
      refine ⟨(p + 1, q + 1, cur.set q (zs.getD (k + p) (0, 0))), ⟨⟨by simp only; omega, by simp only; omega⟩, ⟨by simp only; omega, by simp only; omega⟩, by simpa using hlen, ?_, fun i hi => ?_⟩, by simp only; omega, (Weak.slots (by repeat' first | exact trivial | exact ⟨rfl, trivial⟩ | refine ⟨rfl, ?_⟩))⟩
      · show (cur.set q _).take (q + 1) = compTo zs (k + p + 1)
        rw [set_take (by omega), htk, compTo_ne hne]
      · simp only at hi ⊢
        rw [get_set_ne (by omega)]
        exact hget i (by omega)
    · have heq2 : zs.getD (k + p) (0, 0) = zs.getD (k + p - 1) (0, 0) := by
        have h2 := Decidable.not_not.1 ‹¬ ¬ ((zs.getD (k + p) (0, 0)).1 = _ ∧ _)›
        rw [e3] at h2
        exact Prod.ext h2.1 h2.2
      refine ⟨(p + 1, q, cur), ⟨⟨by simp only; omega, by simp only; omega⟩, ⟨by simp only; omega, by simp only; omega⟩, hlen, ?_, fun i hi => hget i (by simp only at hi; omega)⟩, by simp only; omega, (Weak.slots (by repeat' first | exact trivial | exact ⟨rfl, trivial⟩ | refine ⟨rfl, ?_⟩))⟩
      show cur.take q = compTo zs (k + p + 1)
      rw [htk, compTo_eq ⟨by omega, heq2⟩]
    · have hend : k + p = zs.length := by omega
      rw [hend] at htk
      have hq1 : (compTo zs zs.length).length = q := by rw [← htk, List.length_take]; omega
      refine clear_last (T := 36) (et := 29) (k := H.length + j) (off := q) (m := zs.length - q) (xs := cur) rfl rfl rfl ?_ (by omega) Try.underlying36 (fun w => by kernel_rfl) (thenQ_n ?_)
      · rw [List.getElem?_append_right (by omega), Nat.add_sub_cancel_left, List.getElem?_set_self hjl]
      have hcl := clr_len (xs := cur) (k := q) (by omega)
      simp only [set_base]
      repeat' (first | (with_reducible first | refine AW.sreg envOk fun K hK => ?_ | refine AW.region envOk fun K hK => ?_) | (with_reducible refine AW.d0reg envOk mixed ?_ ?_ fun K hK => ?_; (first | rfl | exact base_len | exact base_len0); kernel_rfl) | (with_reducible refine AW.d0 envOk mixed ?_ ?_ fun K hK => ?_; (first | rfl | exact base_len | exact base_len0); kernel_rfl) | (with_reducible first | refine vcD_nil ?_ | refine vcL_nil ?_) | (with_reducible (first | refine vcD_cons fun K' hK' => ?_ | refine vcL_cons fun K' hK' => ?_); simp only [isC, Bool.false_or, Bool.or_true, ↓reduceDIte, List.take_length, Nat.le_refl, List.drop_zero, vGuard, undef, Bool.not_eq_eq_eq_not, dstOk, vcOp, vcF, isPure, putS, vcCall, St.ev, St.put, lk, AVal.ofVal, initS, Nat.reduceLT, true_and, and_true, vBin, vPart, vLoad, vStore, vIdxA, vLen, vSlice, bnd, AVal.flat, AVal.cell, cellsOk, setRange, ETy.enc, ETy.dec, ETy.sz, ETy.d, cond, Nat.reduceBEq, Nat.reduceAdd, Int.toNat_natCast, List.length_set, List.length_append, List.length_replicate, List.length_take, Nat.reduceSub, Nat.reduceEqDiff, get_bl, setBox_bl, next_bl, List.length_cons, List.length_nil, List.map_cons, List.map_nil, List.append_nil, List.nil_append, List.cons_append, List.set_cons_zero, List.set_cons_succ, getD_zero, getD_succ, List.getElem?_cons_succ, List.getElem?_cons_zero, List.take_succ_cons, List.take_zero, List.drop_succ_cons, List.all_cons, List.all_nil, Bool.and_true, Bool.true_and, Option.bind_some, Option.map_some, Option.map_none, decide_eq_true_eq, decide_eq_false_iff_not, ne_eq, Bool.not_eq_true, Bool.not_eq_false, Decidable.not_not, not_true_eq_false, not_false_eq_true, forall_const, false_implies, Bool.true_eq_false, Bool.false_eq_true, reduceCtorEq, decide_true, decide_false, Bool.not_true, Bool.not_false, if_true, if_false, Nat.zero_add, Nat.lt_irrefl, Value.oneCell', gt_iff_lt, Nat.reduceLeDiff, Nat.lt_add_one, vvar_3, vzero_3, vknd_3, vsn_3, vvar_4, vzero_4, vknd_4, vsn_4, vvar_29, vzero_29, vbld_29, vpts_29, vsl_36, vkn_36, vvar_36, vzero_36, get_set hjl, get_set0 hjl, set_again, hjl, Nat.zero_add, hcl, hlen]; try simp (disch := omega) only [wrap64]) | (with_reducible refine hK' _ ?_; clear hK' K') | (with_reducible refine hK _ ?_; clear hK K) | (with_reducible first | refine And.intro (And.intro rfl rfl) ?_ | refine And.intro (by omega) ?_) | (with_reducible refine And.intro (fun hg => ?_) (fun hg => ?_) <;> first | simp only [eq_false hg, decide_true, decide_false, and_true, true_and, and_false, false_and, not_true_eq_false, not_false_eq_true] | simp only [eq_true hg, decide_true, decide_false, and_true, true_and, and_false, false_and, not_true_eq_false, not_false_eq_true] | simp only [hg, decide_true, decide_false, and_true, true_and, and_false, false_and, not_true_eq_false, not_false_eq_true]) | (with_reducible first | refine And.intro rfl (And.intro rfl rfl) | refine thenQ_n ?_ | refine thenQ_exit ?_ | refine thenQ_ret ?_ | refine midQ_ret ?_ | refine midQ_exit ?_ | refine blockQ_same ?_ | refine blockQ_ne (by decide) ?_ | refine blockQ_ret ?_ | refine blockQ_n ?_ | refine AW.exit ?_ | refine AW.block ?_ | refine AW.cond_t rfl ?_ | refine AW.cond_f rfl ?_ | refine AW.cond_dec rfl (fun hc => ?_) (fun hc => ?_)) | (with_reducible refine AW.cond rfl (fun hc => ?_) (fun hc => ?_) <;> try simp only [Bool.not_eq_eq_eq_not, Bool.not_true, Bool.not_false, decide_eq_true_eq, decide_eq_false_iff_not] at hc) | (with_reducible first | refine AW.seq ?_ | refine AW.skip ?_ | refine AW.ret ?_ | refine And.intro ?_ ?_) | (with_reducible intro hg; first | simp only [eq_false hg, decide_true, decide_false, and_true, true_and, and_false, false_and, not_true_eq_false, not_false_eq_true] | simp only [eq_true hg, decide_true, decide_false, and_true, true_and, and_false, false_and, not_true_eq_false, not_false_eq_true]) | (with_reducible refine retQ_drop ?_; simp only [vRes, packRes, vLoad, vPart, lk, cond, Nat.reduceBEq, get_bl, getD_zero, getD_succ, true_and, List.length_cons, List.length_nil, Nat.reduceAdd, Nat.reduceLT, Nat.reduceLeDiff, List.take_succ_cons, List.take_zero, List.drop_succ_cons, List.drop_zero, vvar_3, vzero_3, vknd_3, vsn_3, vvar_4, vzero_4, vknd_4, vsn_4, vvar_29, vzero_29, vbld_29, vpts_29, vsl_36, vkn_36, vvar_36, vzero_36]) )
      refine ⟨_, _, FinOk.base, clr cur q, ⟨by rw [hcl, hlen], ?_⟩, ?_, rfl⟩
      · rw [hq1, ← htk]
        unfold clr
        rw [List.take_append_of_le_length (by rw [List.length_take]; omega), List.take_take, Nat.min_self]
      · rw [hq1]; simp
  · have hne : ¬ zs.getD k (0, 0) = zs.getD (k - 1) (0, 0) := fun h => by
      have h2 := ‹¬ ((zs.getD k (0, 0)).1 = _ ∧ _)›
      exact h2 ⟨by rw [h], by rw [h]⟩
    refine ⟨k + 1, ⟨⟨by omega, by omega⟩, by rw [compTo_ne hne, hK, take_snoc (by omega)]⟩, by omega, (Weak.slots (by repeat' first | exact trivial | exact ⟨rfl, trivial⟩ | refine ⟨rfl, ?_⟩))⟩
  · obtain rfl : k = zs.length := by omega
    refine ⟨_, _, FinOk.base, zs, ⟨rfl, ?_⟩, ?_, rfl⟩
    · rw [hK, List.take_length, List.take_length]
    · rw [hK, List.take_length]
end Go.Proofs.Ytlfhhgfhoddgpaa
end
section
set_option linter.unusedSimpArgs false
set_option linter.unusedVariables false
set_option maxHeartbeats 1000000
namespace Go.Proofs.Ytlfhhgfhoddgpaa
open Go.Eng
/-- Ascending, each once. -/
def Asc (ys : List (Int × Int)) : Prop := ys.Pairwise ltP
theorem ltP_tri (a b : Int × Int) : ltP a b ∨ a = b ∨ ltP b a := by
  unfold ltP
  by_cases h1 : a.1 < b.1
  · exact .inl (.inl h1)
  · by_cases h2 : b.1 < a.1
    · exact .inr (.inr (.inl h2))
    · by_cases h3 : a.2 < b.2
      · exact .inl (.inr ⟨by omega, h3⟩)
      · by_cases h4 : b.2 < a.2
        · exact .inr (.inr (.inr ⟨by omega, h4⟩))
        · exact .inr (.inl (Prod.ext (by omega) (by omega)))
theorem ltP_trans {a b c : Int × Int} (h : ltP a b) (k : ltP b c) : ltP a c := by unfold ltP at *; omega
theorem ltP_irr (a : Int × Int) : ¬ ltP a a := by unfold ltP; omega
theorem asc_unique : ∀ {xs ys : List (Int × Int)}, Asc xs → Asc ys → (∀ p, p ∈ xs ↔ p ∈ ys) → xs = ys
  | [], [], _, _, _ => rfl
  | [], y :: ys, _, _, h => absurd ((h y).2 (by simp)) (by simp)
  | x :: xs, [], _, _, h => absurd ((h x).1 (by simp)) (by simp)
  | x :: xs, y :: ys, hx, hy, h => by
    have hx' := List.pairwise_cons.1 hx
    have hy' := List.pairwise_cons.1 hy
    have e : x = y := by
      rcases ltP_tri x y with h1 | h1 | h1
      · have := (h x).1 (by simp)
        rcases List.mem_cons.1 this with h2 | h2
        · exact h2
        · exact absurd (ltP_trans h1 (hy'.1 x h2)) (ltP_irr x)
      · exact h1
      · have := (h y).2 (by simp)
        rcases List.mem_cons.1 this with h2 | h2
        · exact h2.symm
        · exact absurd (ltP_trans h1 (hx'.1 y h2)) (ltP_irr y)
    subst e
    have : xs = ys := asc_unique hx'.2 hy'.2 (fun p => by
      constructor
      · intro hp
        rcases List.mem_cons.1 ((h p).1 (by simp [hp])) with h2 | h2
        · subst h2; exact absurd (hx'.1 p hp) (ltP_irr p)
        · exact h2
      · intro hp
        rcases List.mem_cons.1 ((h p).2 (by simp [hp])) with h2 | h2
        · subst h2; exact absurd (hy'.1 p hp) (ltP_irr p)
        · exact h2)
    rw [this]
theorem compTo_mem (zs : List (Int × Int)) : ∀ i, i ≤ zs.length → ∀ p, p ∈ compTo zs i ↔ p ∈ zs.take i
  | 0, _, p => by simp [compTo]
  | i + 1, h, p => by
    rw [take_snoc (by omega)]
    have ih := compTo_mem zs i (by omega) p
    by_cases e : 0 < i ∧ zs.getD i (0, 0) = zs.getD (i - 1) (0, 0)
    · rw [compTo_eq e, ih]
      simp only [List.mem_append, List.mem_singleton]
      refine ⟨.inl, fun h' => ?_⟩
      rcases h' with h' | h'
      · exact h'
      · rw [h', e.2]
        rw [show zs.take i = zs.take (i - 1) ++ [zs.getD (i - 1) (0, 0)] by rw [← take_snoc (by omega), Nat.sub_add_cancel e.1]]
        simp
    · show p ∈ (if _ then _ else _) ↔ _
      rw [if_neg e]
      simp only [List.mem_append, ih]
/-- Of a sorted list: ascending, and the last is the last taken. -/
theorem compTo_asc {zs : List (Int × Int)} (hs : zs.Pairwise (fun a b => ¬ ltP b a)) : ∀ i, i ≤ zs.length → Asc (compTo zs i) ∧ ∀ p ∈ compTo zs i, ¬ ltP (zs.getD (i - 1) (0, 0)) p
  | 0, _ => ⟨List.Pairwise.nil, fun p hp => by simp [compTo] at hp⟩
  | i + 1, h => by
    obtain ⟨h1, h2⟩ := compTo_asc hs i (by omega)
    have hle : ∀ a b, a < b → b < zs.length → ¬ ltP (zs.getD b (0, 0)) (zs.getD a (0, 0)) := fun a b hab hb => by
      have := (List.pairwise_iff_getElem.1 hs) a b (by omega) hb hab
      simpa [List.getD, hb, show a < zs.length by omega] using this
    by_cases e : 0 < i ∧ zs.getD i (0, 0) = zs.getD (i - 1) (0, 0)
    · rw [compTo_eq e, show i + 1 - 1 = i from rfl, e.2]
      exact ⟨h1, h2⟩
    · have e' : compTo zs (i + 1) = compTo zs i ++ [zs.getD i (0, 0)] := by
        show (if _ then _ else _) = _
        rw [if_neg e]
      rw [e', show i + 1 - 1 = i from rfl]
      rcases Nat.eq_zero_or_pos i with rfl | hi
      · refine ⟨by simp [compTo, Asc], fun p hp => ?_⟩
        simp [compTo] at hp; subst hp; exact ltP_irr _
      · have hne : ¬ zs.getD i (0, 0) = zs.getD (i - 1) (0, 0) := fun h' => e ⟨hi, h'⟩
        have hlt : ltP (zs.getD (i - 1) (0, 0)) (zs.getD i (0, 0)) := by
          rcases ltP_tri (zs.getD (i - 1) (0, 0)) (zs.getD i (0, 0)) with h' | h' | h'
          · exact h'
          · exact absurd h'.symm hne
          · exact absurd h' (hle _ _ (by omega) (by omega))
        have hlast : ∀ p ∈ compTo zs i, ltP p (zs.getD i (0, 0)) := fun p hp => by
          have := h2 p hp
          rcases ltP_tri p (zs.getD (i - 1) (0, 0)) with h' | h' | h'
          · exact ltP_trans h' hlt
          · rw [h']; exact hlt
          · exact absurd h' this
        refine ⟨List.pairwise_append.2 ⟨h1, List.pairwise_singleton _ _, fun a ha b hb => by rw [List.mem_singleton.1 hb]; exact hlast a ha⟩, fun p hp => ?_⟩
        rcases List.mem_append.1 hp with h' | h'
        · intro h''; exact ltP_irr _ (ltP_trans h'' (hlast p h'))
        · rw [List.mem_singleton.1 h']; exact ltP_irr _
/-- What impl.sorted gives. -/
def IsSet (xs ys : List (Int × Int)) : Prop := Asc ys ∧ ∀ p, p ∈ ys ↔ p ∈ xs
theorem comp_isSet {xs zs : List (Int × Int)} (hp : zs.Perm xs) (hs : zs.Pairwise (fun a b => ¬ ltP b a)) : IsSet xs (compTo zs zs.length) :=
  ⟨(compTo_asc hs _ (Nat.le_refl _)).1, fun p => by rw [compTo_mem zs _ (Nat.le_refl _), List.take_length]; exact hp.mem_iff⟩
end Go.Proofs.Ytlfhhgfhoddgpaa
end
section
set_option linter.unusedSimpArgs false
set_option linter.unusedVariables false
set_option maxHeartbeats 1000000
namespace Go.Proofs.Ytlfhhgfhoddgpaa
open Go.Eng
theorem sorted105_ac (xs : List (Int × Int)) (h0 : 0 < xs.length) (hx : xs.length < 1000000) (H : List ABox) : AC Try.prog 27 [.rd .pt (xs)] H
    (fun r H' => ∃ z : List (Int × Int) × List (Int × Int), (IsSet xs z.1 ∧ z.2.take z.1.length = z.1 ∧ z.1.length ≤ z.2.length) ∧ r = .sl 2 (H.length + 0) 0 z.1.length ∧ H' = H ++ [.row false .pt z.2]) := by
  refine AC.enter envOk Try.func27 rfl (by decide) Try.ntmps27 Try.results27 (by simp) fun hB => ?_
  repeat' (first | (with_reducible first | refine AW.sreg envOk fun K hK => ?_ | refine AW.region envOk fun K hK => ?_ | refine vcL_nil ?_) | (with_reducible (first | refine vcL_cons fun K' hK' => ?_); simp only [isC, Bool.false_or, Bool.or_true, ↓reduceDIte, List.take_length, Nat.le_refl, List.drop_zero, vGuard, undef, Bool.not_eq_eq_eq_not, dstOk, vcOp, vcF, isPure, putS, vcCall, St.ev, St.put, lk, AVal.ofVal, initS, Nat.reduceLT, true_and, and_true, vPart, vLoad, vSlice, bnd, AVal.flat, AVal.cell, cellsOk, setRange, ETy.enc, ETy.dec, ETy.sz, ETy.d, cond, Nat.reduceBEq, Nat.reduceAdd, Int.toNat_natCast, List.length_set, List.length_append, List.length_replicate, List.length_take, Nat.reduceSub, Nat.reduceEqDiff, get_loc, setBox_loc, next_eq, List.length_cons, List.length_nil, List.map_cons, List.map_nil, List.append_nil, List.nil_append, List.cons_append, List.set_cons_zero, List.set_cons_succ, getD_zero, getD_succ, List.getElem?_cons_succ, List.getElem?_cons_zero, List.take_succ_cons, List.take_zero, List.drop_succ_cons, List.all_cons, List.all_nil, Bool.and_true, Bool.true_and, Option.bind_some, Option.map_some, Option.map_none, decide_eq_true_eq, decide_eq_false_iff_not, ne_eq, Bool.not_eq_true, Bool.not_eq_false, Decidable.not_not, not_true_eq_false, not_false_eq_true, forall_const, false_implies, Bool.true_eq_false, Bool.false_eq_true, reduceCtorEq, decide_true, decide_false, Bool.not_true, Bool.not_false, if_true, if_false, Nat.zero_add, Nat.lt_irrefl, Value.oneCell', gt_iff_lt, Nat.reduceLeDiff, Nat.lt_add_one, vsl_36, vkn_36, vvar_36, vzero_36]; try simp (disch := omega) only [wrap64]) | (with_reducible refine hK' _ ?_; clear hK' K') | (with_reducible refine hK _ ?_; clear hK K) | ((with_reducible show vCall _ (AVal.fn 43 _) _ _ _); refine vCall_newE (clone117_ac xs h0 (by omega) _) (show AVal.sl 2 ((H ++ []).length + 0) 0 _ = .sl 2 (H.length + 0) 0 xs.length by simp) ?_) | ((with_reducible show vCall _ (AVal.fn 44 _) _ _ _); refine vCall_ex (sort118_ac xs h0 hx _ 0 rfl _) (fun ys hys => ?_)) | (with_reducible first | refine And.intro (And.intro rfl rfl) ?_ | refine And.intro (by omega) ?_) | (with_reducible refine And.intro (fun hg => ?_) (fun hg => ?_) <;> first | simp only [eq_false hg, decide_true, decide_false, and_true, true_and, and_false, false_and, not_true_eq_false, not_false_eq_true] | simp only [eq_true hg, decide_true, decide_false, and_true, true_and, and_false, false_and, not_true_eq_false, not_false_eq_true] | simp only [hg, decide_true, decide_false, and_true, true_and, and_false, false_and, not_true_eq_false, not_false_eq_true]) | (with_reducible first | refine And.intro rfl (And.intro rfl rfl) | refine thenQ_n ?_ | refine thenQ_exit ?_ | refine thenQ_ret ?_ | refine midQ_ret ?_ | refine midQ_exit ?_ | refine blockQ_same ?_ | refine blockQ_ne (by decide) ?_ | refine blockQ_ret ?_ | refine blockQ_n ?_ | refine AW.exit ?_ | refine AW.block ?_ | refine AW.cond_t rfl ?_ | refine AW.cond_f rfl ?_ | refine AW.cond_dec rfl (fun hc => ?_) (fun hc => ?_)) | (with_reducible refine AW.cond rfl (fun hc => ?_) (fun hc => ?_) <;> try simp only [Bool.not_eq_eq_eq_not, Bool.not_true, Bool.not_false, decide_eq_true_eq, decide_eq_false_iff_not] at hc) | (with_reducible first | refine AW.seq ?_ | refine AW.skip ?_ | refine AW.ret ?_ | refine And.intro ?_ ?_) | (with_reducible intro hg; first | simp only [eq_false hg, decide_true, decide_false, and_true, true_and, and_false, false_and, not_true_eq_false, not_false_eq_true] | simp only [eq_true hg, decide_true, decide_false, and_true, true_and, and_false, false_and, not_true_eq_false, not_false_eq_true]) | (with_reducible refine retQ_drop ?_; simp only [vRes, packRes, vLoad, vPart, lk, cond, Nat.reduceBEq, get_loc, getD_zero, getD_succ, true_and, List.length_cons, List.length_nil, Nat.reduceAdd, Nat.reduceLT, Nat.reduceLeDiff, List.take_succ_cons, List.take_zero, List.drop_succ_cons, List.drop_zero, vsl_36, vkn_36, vvar_36, vzero_36]) )
  have hlen : xs.length = ys.length := hys.1.length_eq.symm
  simp only [List.set_cons_zero, hlen]
  repeat' (first | (with_reducible first | refine AW.sreg envOk fun K hK => ?_ | refine AW.region envOk fun K hK => ?_ | refine vcL_nil ?_) | (with_reducible (first | refine vcL_cons fun K' hK' => ?_); simp only [isC, Bool.false_or, Bool.or_true, ↓reduceDIte, List.take_length, Nat.le_refl, List.drop_zero, vGuard, undef, Bool.not_eq_eq_eq_not, dstOk, vcOp, vcF, isPure, putS, vcCall, St.ev, St.put, lk, AVal.ofVal, initS, Nat.reduceLT, true_and, and_true, vPart, vLoad, vSlice, bnd, AVal.flat, AVal.cell, cellsOk, setRange, ETy.enc, ETy.dec, ETy.sz, ETy.d, cond, Nat.reduceBEq, Nat.reduceAdd, Int.toNat_natCast, List.length_set, List.length_append, List.length_replicate, List.length_take, Nat.reduceSub, Nat.reduceEqDiff, get_loc, setBox_loc, next_eq, List.length_cons, List.length_nil, List.map_cons, List.map_nil, List.append_nil, List.nil_append, List.cons_append, List.set_cons_zero, List.set_cons_succ, getD_zero, getD_succ, List.getElem?_cons_succ, List.getElem?_cons_zero, List.take_succ_cons, List.take_zero, List.drop_succ_cons, List.all_cons, List.all_nil, Bool.and_true, Bool.true_and, Option.bind_some, Option.map_some, Option.map_none, decide_eq_true_eq, decide_eq_false_iff_not, ne_eq, Bool.not_eq_true, Bool.not_eq_false, Decidable.not_not, not_true_eq_false, not_false_eq_true, forall_const, false_implies, Bool.true_eq_false, Bool.false_eq_true, reduceCtorEq, decide_true, decide_false, Bool.not_true, Bool.not_false, if_true, if_false, Nat.zero_add, Nat.lt_irrefl, Value.oneCell', gt_iff_lt, Nat.reduceLeDiff, Nat.lt_add_one, vsl_36, vkn_36, vvar_36, vzero_36, hlen]; try simp (disch := omega) only [wrap64]) | (with_reducible refine hK' _ ?_; clear hK' K') | (with_reducible refine hK _ ?_; clear hK K) | ((with_reducible show vCall _ (AVal.fn 46 _) _ _ _); refine vCall_ex (comp120_ac ys (by omega) _ 0 rfl _) (fun y2 hy2 => ?_)) | (with_reducible first | refine And.intro (And.intro rfl rfl) ?_ | refine And.intro (by omega) ?_) | (with_reducible refine And.intro (fun hg => ?_) (fun hg => ?_) <;> first | simp only [eq_false hg, decide_true, decide_false, and_true, true_and, and_false, false_and, not_true_eq_false, not_false_eq_true] | simp only [eq_true hg, decide_true, decide_false, and_true, true_and, and_false, false_and, not_true_eq_false, not_false_eq_true] | simp only [hg, decide_true, decide_false, and_true, true_and, and_false, false_and, not_true_eq_false, not_false_eq_true]) | (with_reducible first | refine And.intro rfl (And.intro rfl rfl) | refine thenQ_n ?_ | refine thenQ_exit ?_ | refine thenQ_ret ?_ | refine midQ_ret ?_ | refine midQ_exit ?_ | refine blockQ_same ?_ | refine blockQ_ne (by decide) ?_ | refine blockQ_ret ?_ | refine blockQ_n ?_ | refine AW.exit ?_ | refine AW.block ?_ | refine AW.cond_t rfl ?_ | refine AW.cond_f rfl ?_ | refine AW.cond_dec rfl (fun hc => ?_) (fun hc => ?_)) | (with_reducible refine AW.cond rfl (fun hc => ?_) (fun hc => ?_) <;> try simp only [Bool.not_eq_eq_eq_not, Bool.not_true, Bool.not_false, decide_eq_true_eq, decide_eq_false_iff_not] at hc) | (with_reducible first | refine AW.seq ?_ | refine AW.skip ?_ | refine AW.ret ?_ | refine And.intro ?_ ?_) | (with_reducible intro hg; first | simp only [eq_false hg, decide_true, decide_false, and_true, true_and, and_false, false_and, not_true_eq_false, not_false_eq_true] | simp only [eq_true hg, decide_true, decide_false, and_true, true_and, and_false, false_and, not_true_eq_false, not_false_eq_true]) | (with_reducible refine retQ_drop ?_; simp only [vRes, packRes, vLoad, vPart, lk, cond, Nat.reduceBEq, get_loc, getD_zero, getD_succ, true_and, List.length_cons, List.length_nil, Nat.reduceAdd, Nat.reduceLT, Nat.reduceLeDiff, List.take_succ_cons, List.take_zero, List.drop_succ_cons, List.drop_zero, vsl_36, vkn_36, vvar_36, vzero_36]) )
  refine ⟨_, _, FinOk.keep [0] (L := [.row false .pt y2]) hB (by decide) ⟨RenB.plRow rfl, by simp, trivial⟩ (RenV.sl (j := 0) rfl), (compTo ys ys.length, y2), ⟨comp_isSet hys.1 hys.2, hy2.2, ?_⟩, rfl, rfl⟩
  have := compTo_len ys ys.length
  simp only; omega
end Go.Proofs.Ytlfhhgfhoddgpaa
end
section
set_option linter.unusedSimpArgs false
set_option linter.unusedVariables false
set_option maxHeartbeats 1000000
namespace Go.Proofs.Ytlfhhgfhoddgpaa
open Go.Eng
/-- A row may be cut to a prefix. -/
theorem cutRow {c : Ctx} {H : List ABox} {w : World} {zs : List (Int × Int)} {m : Nat} (hm : m ≤ zs.length) (h : RelH c (H ++ [.row false .pt zs]) w) : RelH c (H ++ [.row false .pt (zs.take m)]) w := by
  have back : ∀ (k : Nat) (X : ABox), (H ++ [.row false .pt (zs.take m)])[k]? = some X → X.live = true → ∃ X0, (H ++ [.row false .pt zs])[k]? = some X0 ∧ X0.live = true := fun k X hk hX => by
    by_cases e : k < H.length
    · rw [List.getElem?_append_left e] at hk
      exact ⟨X, by rw [List.getElem?_append_left e]; exact hk, hX⟩
    · have hlt := (List.getElem?_eq_some_iff.1 hk).1
      simp only [List.length_append, List.length_cons, List.length_nil] at hlt
      obtain rfl : k = H.length := by omega
      exact ⟨.row false .pt zs, by simp, rfl⟩
  refine ⟨h.os, h.tape, h.output, h.sealed, fun k hk => h.dom k (by simpa using hk), fun k X hk hX => ?_, fun k k' a a' X X' h1 h2 h3 h4 h5 h6 h7 => ?_⟩
  · by_cases e : k < H.length
    · rw [List.getElem?_append_left e] at hk
      exact h.box k X (by rw [List.getElem?_append_left e]; exact hk) hX
    · have hlt := (List.getElem?_eq_some_iff.1 hk).1
      simp only [List.length_append, List.length_cons, List.length_nil] at hlt
      obtain rfl : k = H.length := by omega
      have hX' : X = .row false .pt (zs.take m) := by simpa using hk.symm
      subst hX'
      obtain ⟨l, hl, cells, T, g1, g2, g3, g4, g5⟩ := h.box H.length (.row false .pt zs) (by simp) rfl
      refine ⟨l, hl, cells, T, g1, g2, g3, by rw [List.length_take]; exact Nat.le_trans (Nat.min_le_right _ _) g4, fun i j hi hj => ?_⟩
      rw [List.length_take] at hi
      have := g5 i j (by omega) hj
      have e2 : (zs.take m).getD i ETy.pt.d = zs.getD i ETy.pt.d := by
        simp only [List.getD]; rw [List.getElem?_take, if_pos (by omega)]
      rw [e2]; exact this
  · obtain ⟨X0, g6, g7⟩ := back k X h1 h2
    obtain ⟨X1, g8, g9⟩ := back k' X' h3 h4
    exact h.inj k k' a a' X0 X1 g6 g7 g8 g9 h5 h6 h7
theorem sorted105p_ac (xs : List (Int × Int)) (h0 : 0 < xs.length) (hx : xs.length < 1000000) (H : List ABox) : AC Try.prog 27 [.rd .pt (xs)] H
    (fun r H' => ∃ ys : List (Int × Int), IsSet xs ys ∧ r = .sl 2 (H.length + 0) 0 ys.length ∧ H' = H ++ [.row false .pt ys]) := by
  have h := sorted105_ac xs h0 hx H
  refine ⟨h.1, fun c vs w hv hh => (h.2 c vs w hv hh).mono ?_⟩
  rintro e w' ⟨c', r, v, H', h1, h2, h3, h4, z, ⟨hz1, hz2, hz3⟩, hr, rfl⟩
  have h5 := cutRow hz3 h4
  rw [hz2] at h5
  exact ⟨c', r, v, _, h1, h2, h3, h5, z.1, hz1, hr, rfl⟩
/-- The set of the points, in order. -/
noncomputable def setOf (xs : List (Int × Int)) : List (Int × Int) := open Classical in if h : ∃ ys, IsSet xs ys then h.choose else []
theorem setOf_eq {xs ys : List (Int × Int)} (h : IsSet xs ys) : ys = setOf xs := by
  have he : ∃ ys, IsSet xs ys := ⟨ys, h⟩
  have h2 : IsSet xs (setOf xs) := by
    unfold setOf; rw [dif_pos he]; exact he.choose_spec
  exact asc_unique h.1 h2.1 (fun p => (h.2 p).trans (h2.2 p).symm)
theorem sorted105f_ac (xs : List (Int × Int)) (h0 : 0 < xs.length) (hx : xs.length < 1000000) (H : List ABox) : AC Try.prog 27 [.rd .pt (xs)] H (fun r H' => r = .sl 2 (H.length + 0) 0 (setOf xs).length ∧ H' = H ++ [.row false .pt (setOf xs)]) :=
  (sorted105p_ac xs h0 hx H).mono fun r H' ⟨ys, h, h1, h2⟩ => by
    have := setOf_eq h
    subst this
    exact ⟨h1, h2⟩
end Go.Proofs.Ytlfhhgfhoddgpaa
end
section
set_option linter.unusedSimpArgs false
set_option linter.unusedVariables false
set_option maxHeartbeats 2000000
namespace Go.Proofs.Ytlfhhgfhoddgpaa
open Go.Eng
theorem get_base {N : Nat} {s : List (Nat × AVal)} {H l : List ABox} {kc : Nat} {X : ABox} (h : H[kc]? = some X) : St.get ⟨N, s, H, l⟩ kc = X := by
  unfold St.get
  simp only [List.getD]
  rw [List.getElem?_append_left (List.getElem?_eq_some_iff.1 h).1, h]; rfl
theorem setOf_is {xs : List Pt} (h : ∃ ys, IsSet xs ys) : IsSet xs (setOf xs) := by
  obtain ⟨ys, hy⟩ := h
  have := setOf_eq hy
  rw [← this]; exact hy
end Go.Proofs.Ytlfhhgfhoddgpaa
end
section
set_option linter.unusedSimpArgs false
set_option linter.unusedVariables false
set_option maxHeartbeats 2000000
namespace Go.Proofs.Ytlfhhgfhoddgpaa
open Go.Eng
end Go.Proofs.Ytlfhhgfhoddgpaa
end
section
set_option linter.unusedSimpArgs false
set_option linter.unusedVariables false
namespace Go.Proofs.Ytlfhhgfhoddgpaa
open Go.Eng
/-- Where a way stands, and the direction in which it came there (4: none). -/
abbrev Stt := Pt × Int
def nextS (s : Stt) (k : Nat) : Stt := (stepTo s.1 (k : Int), (k : Int))
/-- What the next step costs. -/
def costS (m : Mz) (bend : Int) (s : Stt) (k : Nat) : Int := if s.2 < 4 ∧ s.2 ≠ (k : Int) then cell m (stepTo s.1 (k : Int)) + bend else cell m (stepTo s.1 (k : Int))
/-- A way leads to the goal from there, and costs so much. -/
inductive PathC (m : Mz) (to : Pt) (bend : Int) : Stt → Int → Prop where
  | done (w : Int) : PathC m to bend (to, w) 0
  | step {s : Stt} {c : Int} (k : Nat) (hk : k < 4) (ho : OpenAt m (stepTo s.1 (k : Int))) (h : PathC m to bend (nextS s k) c) : PathC m to bend s (costS m bend s k + c)
theorem costS_pos {m : Mz} {bend : Int} (hb : 0 ≤ bend) {s : Stt} {k : Nat} (ho : OpenAt m (stepTo s.1 (k : Int))) : 0 < costS m bend s k := by
  have := ho.2
  unfold costS; split <;> omega
theorem costS_le {m : Mz} (hm : MzOk m) {bend : Int} (hb : 0 ≤ bend) {s : Stt} {k : Nat} (ho : OpenAt m (stepTo s.1 (k : Int))) : costS m bend s k ≤ 9 + bend := by
  have := (hm.cell ho.1).2.2.2.2
  unfold costS; split <;> omega
theorem PathC.nonneg {m : Mz} {to : Pt} {bend : Int} (hb : 0 ≤ bend) {s : Stt} {c : Int} (h : PathC m to bend s c) : 0 ≤ c := by
  induction h with
  | done w => exact Int.le_refl _
  | step k hk ho h ih => have := costS_pos hb ho; omega
/-- The least cost. -/
def LeastC (m : Mz) (to : Pt) (bend : Int) (s : Stt) (c : Int) : Prop := PathC m to bend s c ∧ ∀ c', PathC m to bend s c' → c ≤ c'
theorem LeastC.unique {m : Mz} {to : Pt} {bend : Int} {s : Stt} {c d : Int} (h : LeastC m to bend s c) (k : LeastC m to bend s d) : c = d := by
  have := h.2 d k.1
  have := k.2 c h.1
  omega
theorem LeastC.goal {m : Mz} {to : Pt} {bend : Int} (hb : 0 ≤ bend) (w : Int) : LeastC m to bend (to, w) 0 := ⟨.done w, fun c' h => h.nonneg hb⟩
/-- A state that a search may meet. -/
def SOk (m : Mz) (s : Stt) : Prop := OpenAt m s.1 ∧ 0 ≤ s.2 ∧ s.2 ≤ 4
theorem SOk.next {m : Mz} {s : Stt} {k : Nat} (hk : k < 4) (ho : OpenAt m (stepTo s.1 (k : Int))) : SOk m (nextS s k) := ⟨ho, by show (0 : Int) ≤ (k : Int); omega, by show (k : Int) ≤ 4; omega⟩
/-- A table of costs that are those of ways, the goal's among them. -/
structure TOk (m : Mz) (to : Pt) (bend : Int) (T : Stt → Option Int) : Prop where
  real : ∀ s c, T s = some c → PathC m to bend s c
  goal : ∀ w : Int, 0 ≤ w → w ≤ 4 → T (to, w) = some 0
/-- Nothing is left to be lowered. -/
def TClosed (m : Mz) (bend : Int) (T : Stt → Option Int) : Prop := ∀ s, SOk m s → ∀ k : Nat, k < 4 → OpenAt m (stepTo s.1 (k : Int)) → ∀ c, T (nextS s k) = some c → ∃ c0, T s = some c0 ∧ c0 ≤ costS m bend s k + c
theorem TOk.below {m : Mz} {to : Pt} {bend : Int} {T : Stt → Option Int} (h : TOk m to bend T) (hc : TClosed m bend T) {s : Stt} {c : Int} (hp : PathC m to bend s c) (hs : SOk m s) : ∃ c0, T s = some c0 ∧ c0 ≤ c := by
  induction hp with
  | done w => exact ⟨0, h.goal w hs.2.1 hs.2.2, Int.le_refl _⟩
  | step k hk ho hp ih =>
    obtain ⟨c0, h1, h2⟩ := ih (SOk.next hk ho)
    obtain ⟨c1, h3, h4⟩ := hc _ hs k hk ho c0 h1
    exact ⟨c1, h3, by omega⟩
theorem TOk.least {m : Mz} {to : Pt} {bend : Int} {T : Stt → Option Int} (h : TOk m to bend T) (hc : TClosed m bend T) {s : Stt} (hs : SOk m s) (c : Int) : T s = some c ↔ LeastC m to bend s c := by
  constructor
  · intro ht
    refine ⟨h.real s c ht, fun c' hp => ?_⟩
    obtain ⟨c0, h1, h2⟩ := h.below hc hp hs
    rw [ht] at h1; cases h1; exact h2
  · intro hl
    obtain ⟨c0, h1, h2⟩ := h.below hc hl.1 hs
    have := hl.2 c0 (h.real s c0 h1)
    rw [h1, show c0 = c by omega]
/-- The least costs, as a table. -/
noncomputable def dist (m : Mz) (to : Pt) (bend : Int) (s : Stt) : Option Int := open Classical in if h : ∃ c, LeastC m to bend s c then some h.choose else none
theorem dist_iff {m : Mz} {to : Pt} {bend : Int} {s : Stt} {c : Int} : dist m to bend s = some c ↔ LeastC m to bend s c := by
  unfold dist
  split
  · rename_i h
    constructor
    · intro e; cases e; exact h.choose_spec
    · intro hl; rw [h.choose_spec.unique hl]
  · rename_i h
    exact ⟨fun e => absurd e (by simp), fun hl => absurd ⟨c, hl⟩ h⟩
theorem TOk.dist {m : Mz} {to : Pt} {bend : Int} {T : Stt → Option Int} (h : TOk m to bend T) (hc : TClosed m bend T) {s : Stt} (hs : SOk m s) : T s = Go.Proofs.Ytlfhhgfhoddgpaa.dist m to bend s := by
  cases e : T s with
  | some c => exact (dist_iff.2 ((h.least hc hs c).1 e)).symm
  | none =>
    cases e2 : Go.Proofs.Ytlfhhgfhoddgpaa.dist m to bend s with
    | none => rfl
    | some c => have := (h.least hc hs c).2 (dist_iff.1 e2); rw [e] at this; cases this
/-- A step keeps a cheapest way. -/
def Good (m : Mz) (to : Pt) (bend : Int) (s : Stt) (k : Nat) : Prop := OpenAt m (stepTo s.1 (k : Int)) ∧ ∃ c d, dist m to bend s = some c ∧ dist m to bend (nextS s k) = some d ∧ costS m bend s k + d = c
theorem Good.less {m : Mz} {to : Pt} {bend : Int} (hb : 0 ≤ bend) {s : Stt} {k : Nat} (h : Good m to bend s k) {c : Int} (hd : dist m to bend s = some c) : ∃ d, dist m to bend (nextS s k) = some d ∧ 0 ≤ d ∧ d < c := by
  obtain ⟨ho, c', d, h1, h2, h3⟩ := h
  rw [hd] at h1; cases h1
  have := costS_pos hb ho
  exact ⟨d, h2, (dist_iff.1 h2).1.nonneg hb, by omega⟩
end Go.Proofs.Ytlfhhgfhoddgpaa
end
section
set_option linter.unusedSimpArgs false
set_option linter.unusedVariables false
namespace Go.Proofs.Ytlfhhgfhoddgpaa
open Go.Eng
/-! ### Sums over lists -/
def wgt (B : Nat) (x : Int) : Nat := if x < 0 then B else x.toNat
def wsum (B : Nat) (L : List Int) : Nat := (L.map (wgt B)).sum
def cntP (L : List Int) : Nat := (L.filter fun x => decide (0 ≤ x)).length
theorem cntP_set {L : List Int} {i : Nat} {v : Int} (h : i < L.length) (hv : 0 ≤ v) : cntP (L.set i v) = if L.getD i 0 < 0 then cntP L + 1 else cntP L := by
  induction L generalizing i with
  | nil => simp at h
  | cons x r ih =>
    cases i with
    | zero =>
      show cntP (v :: r) = if x < 0 then _ else _
      unfold cntP
      by_cases hx : x < 0
      · rw [if_pos hx]; simp [List.filter_cons, hv, show ¬ 0 ≤ x by omega]
      · rw [if_neg hx]; simp [List.filter_cons, hv, show 0 ≤ x by omega]
    | succ i =>
      have ih := ih (i := i) (by simpa using h)
      have e : (x :: r).getD (i + 1) 0 = r.getD i 0 := rfl
      rw [e]
      show cntP (x :: r.set i v) = _
      have e2 : ∀ l : List Int, cntP (x :: l) = (if 0 ≤ x then 1 else 0) + cntP l := fun l => by
        unfold cntP
        by_cases hx : 0 ≤ x
        · simp [List.filter_cons, hx]; omega
        · simp [List.filter_cons, hx]
      rw [e2, e2, ih]
      by_cases g : r.getD i 0 < 0
      · rw [if_pos g, if_pos g]; omega
      · rw [if_neg g, if_neg g]
/-! ### The numbers of states -/
def sx (m : Mz) (s : Stt) : Nat := (5 * ixP m s.1 + s.2).toNat
theorem ixP_bnd2 {m : Mz} {p : Pt} (h : InMz m p) : 0 ≤ ixP m p ∧ ixP m p < (m.length : Int) * width m := by
  obtain ⟨⟨a, b⟩, c, d⟩ := h
  unfold ixP
  have h1 : 0 ≤ p.2 * (width m : Int) := Int.mul_nonneg a (by omega)
  refine ⟨by omega, ?_⟩
  have h2 : p.2 * (width m : Int) ≤ ((m.length : Int) - 1) * (width m : Int) := Int.mul_le_mul_of_nonneg_right b (by omega)
  have h3 : ((m.length : Int) - 1) * (width m : Int) = (m.length : Int) * width m - width m := by rw [Int.sub_mul, Int.one_mul]
  omega
/-- In the maze, and a direction or none. -/
def SIn (m : Mz) (s : Stt) : Prop := InMz m s.1 ∧ 0 ≤ s.2 ∧ s.2 ≤ 4
theorem SOk.inn {m : Mz} {s : Stt} (h : SOk m s) : SIn m s := ⟨h.1.1, h.2⟩
theorem sx_eq {m : Mz} {s : Stt} (h : SIn m s) : ((sx m s : Nat) : Int) = 5 * ixP m s.1 + s.2 := by
  have := ixP_bnd2 h.1
  have := h.2
  unfold sx; omega
theorem sx_lt {m : Mz} {s : Stt} (h : SIn m s) : sx m s < 5 * (m.length * width m) := by
  have h1 := ixP_bnd2 h.1
  have h2 := h.2
  have h3 := sx_eq h
  have h4 : ((m.length * width m : Nat) : Int) = (m.length : Int) * width m := by simp
  omega
theorem sx_inj {m : Mz} {s t : Stt} (hs : SIn m s) (ht : SIn m t) (h : sx m s = sx m t) : s = t := by
  have h1 := sx_eq hs
  have h2 := sx_eq ht
  have h3 := hs.2
  have h4 := ht.2
  have e : ixP m s.1 = ixP m t.1 := by omega
  exact Prod.ext (ixP_inj hs.1 ht.1 e) (by omega)
/-- A list of costs: what it says of a state. -/
noncomputable def LT (m : Mz) (L : List Int) (s : Stt) : Option Int := open Classical in if SIn m s ∧ 0 ≤ L.getD (sx m s) 0 then some (L.getD (sx m s) 0) else none
/-- A list of costs in the midst of a search. -/
structure LOk (m : Mz) (to : Pt) (bend : Int) (L : List Int) : Prop where
  len : L.length = 5 * (m.length * width m)
  tab : TOk m to bend (LT m L)
  dom : ∀ s c, LT m L s = some c → SOk m s
  bnd : ∀ s c, LT m L s = some c → c ≤ (9 + bend) * (cntP L : Int)
theorem LT_some {m : Mz} {L : List Int} {s : Stt} {c : Int} : LT m L s = some c ↔ SIn m s ∧ 0 ≤ L.getD (sx m s) 0 ∧ L.getD (sx m s) 0 = c := by
  unfold LT
  split
  · rename_i h; simp only [Option.some.injEq]; exact ⟨fun e => ⟨h.1, h.2, e⟩, fun e => e.2.2⟩
  · rename_i h; exact ⟨fun e => absurd e (by simp), fun e => absurd ⟨e.1, e.2.1⟩ h⟩
theorem getD_setE {L : List Int} {i : Nat} {v : Int} (h : i < L.length) : (L.set i v).getD i 0 = v := by simp [List.getD, h]
theorem getD_setN {L : List Int} {i j : Nat} {v : Int} (h : i ≠ j) : (L.set i v).getD j 0 = L.getD j 0 := by
  simp only [List.getD]; rw [List.getElem?_set_ne h]
theorem LT_set {m : Mz} {L : List Int} (hl : L.length = 5 * (m.length * width m)) {s : Stt} (hs : SIn m s) {v : Int} (hv : 0 ≤ v) (t : Stt) : LT m (L.set (sx m s) v) t = @ite _ (t = s) (Classical.propDecidable _) (some v) (LT m L t) := by
  have hlt := sx_lt hs
  by_cases e : t = s
  · subst e
    rw [if_pos rfl]
    exact LT_some.2 ⟨hs, by rw [getD_setE (by omega)]; exact hv, getD_setE (by omega)⟩
  · rw [if_neg e]
    by_cases ht : SIn m t
    · have hne : sx m s ≠ sx m t := fun h => e (sx_inj ht hs h.symm)
      unfold LT
      rw [getD_setN hne]
    · unfold LT
      rw [if_neg (fun h => ht h.1), if_neg (fun h => ht h.1)]
/-- A cost is entered that a way has. -/
theorem LOk.put {m : Mz} {to : Pt} {bend : Int} {L : List Int} (hb : 0 ≤ bend) (hm : MzOk m) (h : LOk m to bend L) {s : Stt} (hs : SOk m s) (hn : s.1 ≠ to) {k : Nat} (hk : k < 4) (ho : OpenAt m (stepTo s.1 (k : Int))) {c : Int} (hc : LT m L (nextS s k) = some c)
    (hlow : L.getD (sx m s) 0 < 0 ∨ costS m bend s k + c < L.getD (sx m s) 0) : LOk m to bend (L.set (sx m s) (costS m bend s k + c)) := by
  have hc0 := (h.tab.real _ _ hc).nonneg hb
  have hcp := costS_pos hb ho
  have hcl := costS_le hm hb ho
  have hv : 0 ≤ costS m bend s k + c := by omega
  have hlt := sx_lt hs.inn
  have hset := LT_set h.len hs.inn hv
  have hcnt := cntP_set (L := L) (i := sx m s) (v := costS m bend s k + c) (by rw [h.len]; exact hlt) hv
  have hbc := h.bnd _ _ hc
  refine ⟨by rw [List.length_set]; exact h.len, ⟨fun t d ht => ?_, fun w h0 h4 => ?_⟩, fun t d ht => ?_, fun t d ht => ?_⟩
  · rw [hset] at ht
    split at ht
    · rename_i e; cases ht; subst e
      exact .step k hk ho (h.tab.real _ _ hc)
    · exact h.tab.real _ _ ht
  · rw [hset, if_neg (fun e => hn (by rw [← e]))]
    exact h.tab.goal w h0 h4
  · rw [hset] at ht
    split at ht
    · rename_i e; subst e; exact hs
    · exact h.dom _ _ ht
  · have hmono : (9 + bend) * (cntP L : Int) ≤ (9 + bend) * (cntP (L.set (sx m s) (costS m bend s k + c)) : Int) := by
      refine Int.mul_le_mul_of_nonneg_left ?_ (by omega)
      rw [hcnt]; split <;> omega
    rw [hset] at ht
    split at ht
    · cases ht
      by_cases hneg : L.getD (sx m s) 0 < 0
      · rw [hcnt, if_pos hneg]
        have : (9 + bend) * ((cntP L + 1 : Nat) : Int) = (9 + bend) * (cntP L : Int) + (9 + bend) := by rw [Int.natCast_add, Int.mul_add]; simp
        omega
      · have hls : LT m L s = some (L.getD (sx m s) 0) := LT_some.2 ⟨hs.inn, by omega, rfl⟩
        have := h.bnd _ _ hls
        omega
    · have := h.bnd _ _ ht
      omega
end Go.Proofs.Ytlfhhgfhoddgpaa
end
section
set_option linter.unusedSimpArgs false
set_option linter.unusedVariables false
namespace Go.Proofs.Ytlfhhgfhoddgpaa
open Go.Eng
def MT : List (Stt × Int) → Stt → Option Int
  | [], _ => none
  | x :: r, s => if s = x.1 then some x.2 else MT r s
def setM : List (Stt × Int) → Stt → Int → List (Stt × Int)
  | [], s, v => [(s, v)]
  | x :: r, s, v => if s = x.1 then (x.1, v) :: r else x :: setM r s v
def sumM (ps : List (Stt × Int)) : Nat := (ps.map fun x => x.2.toNat).sum
theorem MT_set (s : Stt) (v : Int) (t : Stt) : ∀ ps : List (Stt × Int), MT (setM ps s v) t = if t = s then some v else MT ps t
  | [] => rfl
  | x :: r => by
    show MT (if s = x.1 then (x.1, v) :: r else x :: setM r s v) t = if t = s then some v else (if t = x.1 then some x.2 else MT r t)
    by_cases e : s = x.1
    · rw [if_pos e]
      show (if t = x.1 then some v else MT r t) = _
      rw [← e]
      by_cases g : t = s
      · rw [if_pos g, if_pos g]
      · rw [if_neg g, if_neg g, if_neg g]
    · rw [if_neg e]
      show (if t = x.1 then some x.2 else MT (setM r s v) t) = _
      rw [MT_set s v t r]
      by_cases g : t = x.1
      · rw [if_pos g, if_neg (fun h : t = s => e (h.symm.trans g)), if_pos g]
      · rw [if_neg g, if_neg g]
theorem setM_keys (s : Stt) (v : Int) : ∀ ps : List (Stt × Int), (setM ps s v).map (·.1) = if (MT ps s).isSome then ps.map (·.1) else ps.map (·.1) ++ [s]
  | [] => rfl
  | x :: r => by
    show (if s = x.1 then (x.1, v) :: r else x :: setM r s v).map (·.1) = if (if s = x.1 then some x.2 else MT r s).isSome then x.1 :: r.map (·.1) else (x.1 :: r.map (·.1)) ++ [s]
    by_cases e : s = x.1
    · rw [if_pos e, if_pos e]; rfl
    · rw [if_neg e, if_neg e, List.map_cons, setM_keys s v r]
      split <;> rfl
theorem MT_mem {ps : List (Stt × Int)} {s : Stt} : (MT ps s).isSome ↔ s ∈ ps.map (·.1) := by
  induction ps with
  | nil => simp [MT]
  | cons x r ih =>
    show (if s = x.1 then some x.2 else MT r s).isSome ↔ _
    by_cases e : s = x.1
    · rw [if_pos e]; simp [e]
    · rw [if_neg e, ih]; simp [e]
theorem setM_len (s : Stt) (v : Int) (ps : List (Stt × Int)) : (setM ps s v).length = if (MT ps s).isSome then ps.length else ps.length + 1 := by
  have := congrArg List.length (setM_keys s v ps)
  rw [List.length_map] at this
  rw [this]; split <;> simp
/-- States with different numbers are few. -/
theorem nodup_leN {l : List Nat} (hn : l.Nodup) {n : Nat} (h : ∀ x ∈ l, x < n) : l.length ≤ n := by
  have key : ∀ (l : List Nat), l.Nodup → ∀ M : List Nat, (∀ x ∈ l, x ∈ M) → l.length ≤ M.length := by
    intro l
    induction l with
    | nil => intro _ M _; simp
    | cons a r ih =>
      intro hn M h
      rw [List.nodup_cons] at hn
      have ha := h a (by simp)
      have := ih hn.2 (M.erase a) (fun x hx => by
        have hxa : x ≠ a := fun e => hn.1 (e ▸ hx)
        exact (List.mem_erase_of_ne hxa).2 (h x (List.mem_cons_of_mem _ hx)))
      rw [List.length_erase_of_mem ha] at this
      have hM : 0 < M.length := List.length_pos_of_mem ha
      simp only [List.length_cons]; omega
  have := key l hn (List.range n) (fun x hx => List.mem_range.2 (h x hx))
  simpa using this
theorem states_le {m : Mz} (hm : MzOk m) {l : List Stt} (hn : l.Nodup) (h : ∀ s ∈ l, SOk m s) : l.length ≤ 720 := by
  obtain ⟨⟨h1, h2⟩, ⟨h3, h4⟩, _⟩ := hm
  have hN : m.length * width m ≤ 12 * 12 := Nat.mul_le_mul h2 h4
  have hn2 : (l.map (sx m)).Nodup := by
    have aux : ∀ l : List Stt, l.Nodup → (∀ s ∈ l, SOk m s) → (l.map (sx m)).Nodup := by
      intro l
      induction l with
      | nil => intro _ _; simp
      | cons a r ih =>
        intro hn h
        rw [List.nodup_cons] at hn
        rw [List.map_cons, List.nodup_cons]
        refine ⟨fun hm => ?_, ih hn.2 (fun s hs => h s (List.mem_cons_of_mem _ hs))⟩
        obtain ⟨b, hb, e⟩ := List.mem_map.1 hm
        have := sx_inj (h b (List.mem_cons_of_mem _ hb)).inn (h a (by simp)).inn e
        exact hn.1 (this ▸ hb)
    exact aux l hn h
  have := nodup_leN hn2 (n := 720) (fun x hx => by
    obtain ⟨s, hs, rfl⟩ := List.mem_map.1 hx
    have := sx_lt (h s hs).inn
    omega)
  rw [List.length_map] at this; exact this
/-- A map of costs in the midst of a search. -/
structure MOk (m : Mz) (to : Pt) (bend : Int) (ps : List (Stt × Int)) : Prop where
  nd : (ps.map (·.1)).Nodup
  tab : TOk m to bend (MT ps)
  dom : ∀ s c, MT ps s = some c → SOk m s
  bnd : ∀ s c, MT ps s = some c → c ≤ (9 + bend) * (ps.length : Int)
theorem MOk.len {m : Mz} {to : Pt} {bend : Int} {ps : List (Stt × Int)} (hm : MzOk m) (h : MOk m to bend ps) : ps.length ≤ 720 := by
  have := states_le hm h.nd (fun s hs => by
    have := MT_mem.2 hs
    cases e : MT ps s with
    | none => rw [e] at this; simp at this
    | some c => exact h.dom s c e)
  rw [List.length_map] at this; exact this
/-- What a map may still lose. -/
def potM (bend : Int) (ps : List (Stt × Int)) : Nat := (721 - ps.length) * ((9 + bend) * 722).toNat + sumM ps
theorem MOk.put {m : Mz} {to : Pt} {bend : Int} {ps : List (Stt × Int)} (hb : 0 ≤ bend) (hm : MzOk m) (h : MOk m to bend ps) {s : Stt} (hs : SOk m s) (hn2 : s.1 = to → False) {k : Nat} (hk : k < 4) (ho : OpenAt m (stepTo s.1 (k : Int))) {c : Int} (hc : MT ps (nextS s k) = some c)
    (hlow : ∀ d, MT ps s = some d → costS m bend s k + c < d) : MOk m to bend (setM ps s (costS m bend s k + c)) := by
  have hc0 := (h.tab.real _ _ hc).nonneg hb
  have hcp := costS_pos hb ho
  have hcl := costS_le hm hb ho
  have hbc := h.bnd _ _ hc
  have hlen := setM_len s (costS m bend s k + c) ps
  refine ⟨?_, ⟨fun t d ht => ?_, fun w h0 h4 => ?_⟩, fun t d ht => ?_, fun t d ht => ?_⟩
  · rw [setM_keys]
    split
    · exact h.nd
    · rename_i hno
      rw [List.nodup_append]
      exact ⟨h.nd, by simp, fun a ha b hb' e => hno (MT_mem.2 (by rw [List.mem_singleton.1 hb'] at e; exact e ▸ ha))⟩
  · rw [MT_set] at ht
    split at ht
    · rename_i e; cases ht; subst e
      exact .step k hk ho (h.tab.real _ _ hc)
    · exact h.tab.real _ _ ht
  · rw [MT_set, if_neg (fun e => hn2 (by rw [← e]))]
    exact h.tab.goal w h0 h4
  · rw [MT_set] at ht
    split at ht
    · rename_i e; subst e; exact hs
    · exact h.dom _ _ ht
  · have hge : (ps.length : Int) ≤ ((setM ps s (costS m bend s k + c)).length : Int) := by rw [hlen]; split <;> omega
    have hmono : (9 + bend) * (ps.length : Int) ≤ (9 + bend) * ((setM ps s (costS m bend s k + c)).length : Int) := Int.mul_le_mul_of_nonneg_left hge (by omega)
    rw [MT_set] at ht
    split at ht
    · cases ht
      cases e : MT ps s with
      | none =>
        rw [hlen, e]
        have : (9 + bend) * ((ps.length + 1 : Nat) : Int) = (9 + bend) * (ps.length : Int) + (9 + bend) := by rw [Int.natCast_add, Int.mul_add]; simp
        simp only [Option.isSome_none, Bool.false_eq_true, if_false]
        omega
      | some d =>
        have h8 := hlow d e
        have h9 := h.bnd _ _ e
        omega
    · have := h.bnd _ _ ht
      omega
end Go.Proofs.Ytlfhhgfhoddgpaa
end
section
set_option linter.unusedSimpArgs false
set_option linter.unusedVariables false
set_option maxHeartbeats 2000000
namespace Go.Proofs.Ytlfhhgfhoddgpaa
open Go.Eng
end Go.Proofs.Ytlfhhgfhoddgpaa
end
section
set_option linter.unusedSimpArgs false
set_option linter.unusedVariables false
set_option maxHeartbeats 4000000
namespace Go.Proofs.Ytlfhhgfhoddgpaa
open Go.Eng
/-- Nothing is to be lowered at the states ahead of this place. -/
def ClTo (m : Mz) (to : Pt) (bend : Int) (L : List Int) (i w k : Nat) : Prop := ∀ s, SOk m s → s.1 ≠ to → ∀ j : Nat, j < 4 → (ixP m s.1 < i ∨ (ixP m s.1 = i ∧ (s.2 < w ∨ (s.2 = w ∧ j < k)))) → OpenAt m (stepTo s.1 (j : Int)) →
  ∀ c, LT m L (nextS s j) = some c → ∃ c0, LT m L s = some c0 ∧ c0 ≤ costS m bend s j + c
theorem ClTo.zero {m : Mz} {to : Pt} {bend : Int} {L : List Int} : ClTo m to bend L 0 0 0 := fun s hs hn j hj h => by
  have := (ixP_bnd2 hs.1.1).1
  have := hs.2
  omega
theorem ClTo.all {m : Mz} {to : Pt} {bend : Int} {L : List Int} (hb : 0 ≤ bend) (h : LOk m to bend L) (hc : ClTo m to bend L (m.length * width m) 0 0) : TClosed m bend (LT m L) := fun s hs k hk ho c ht => by
  by_cases e : s.1 = to
  · have h0 := h.tab.goal s.2 hs.2.1 hs.2.2
    rw [← e] at h0
    refine ⟨0, h0, ?_⟩
    have := (h.tab.real _ _ ht).nonneg hb
    have := costS_pos hb ho
    omega
  · refine hc s hs e k hk (.inl ?_) ho c ht
    have := (ixP_bnd2 hs.1.1).2
    have h4 : ((m.length * width m : Nat) : Int) = (m.length : Int) * width m := by simp
    omega
/-- The place of a sweep: nothing was lowered yet in it, or the sum is less. -/
def SwOk (m : Mz) (to : Pt) (bend : Int) (L0 : List Int) (L : List Int) (fl : Bool) (i w k : Nat) : Prop :=
  LOk m to bend L ∧ ((fl = false ∧ L = L0 ∧ ClTo m to bend L i w k) ∨ (fl = true ∧ wsum ((9 + bend) * 722).toNat L < wsum ((9 + bend) * 722).toNat L0))
theorem SwOk.mono {m : Mz} {to : Pt} {bend : Int} {L0 L : List Int} {fl : Bool} {i w k i' w' k' : Nat} (h : SwOk m to bend L0 L fl i w k) (hc : ClTo m to bend L i w k → ClTo m to bend L i' w' k') : SwOk m to bend L0 L fl i' w' k' :=
  ⟨h.1, h.2.imp (fun ⟨a, b, c⟩ => ⟨a, b, hc c⟩) id⟩
theorem SwOk.put {m : Mz} {to : Pt} {bend : Int} {L0 L : List Int} {fl : Bool} {i w k i' w' k' : Nat} (h : SwOk m to bend L0 L fl i w k) {L' : List Int} (h1 : LOk m to bend L') (h2 : wsum ((9 + bend) * 722).toNat L' < wsum ((9 + bend) * 722).toNat L) : SwOk m to bend L0 L' true i' w' k' :=
  ⟨h1, .inr ⟨rfl, by rcases h.2 with ⟨_, e, _⟩ | ⟨_, g⟩
                     · rw [← e]; exact h2
                     · omega⟩⟩
/-- The first w entries of the goal are set. -/
def GoTo (m : Mz) (to : Pt) (L : List Int) (w : Nat) : Prop := L.length = 5 * (m.length * width m) ∧ ∀ j, j < L.length → L.getD j 0 = if 5 * (ixP m to).toNat ≤ j ∧ j < 5 * (ixP m to).toNat + w then 0 else -1
theorem GoTo.next {m : Mz} {to : Pt} {L : List Int} {w : Nat} (h : GoTo m to L w) : GoTo m to (L.set (5 * (ixP m to).toNat + w) 0) (w + 1) := by
  refine ⟨by rw [List.length_set]; exact h.1, fun j hj => ?_⟩
  rw [List.length_set] at hj
  by_cases e : 5 * (ixP m to).toNat + w = j
  · subst e
    rw [getD_setE hj, if_pos (by omega)]
  · rw [getD_setN e, h.2 j hj]
    by_cases g : 5 * (ixP m to).toNat ≤ j ∧ j < 5 * (ixP m to).toNat + w
    · rw [if_pos g, if_pos (by omega)]
    · rw [if_neg g, if_neg (by omega)]
theorem GoTo.ok {m : Mz} {to : Pt} {bend : Int} {L : List Int} (hb : 0 ≤ bend) (ho : OpenAt m to) (h : GoTo m to L 5) : LOk m to bend L := by
  have htb := ixP_bnd2 ho.1
  have key : ∀ s c, LT m L s = some c ↔ (SIn m s ∧ s.1 = to) ∧ c = 0 := fun s c => by
    rw [LT_some]
    constructor
    · rintro ⟨h1, h2, h3⟩
      have hl := sx_lt h1
      have he := sx_eq h1
      have hs2 := h1.2
      have hsb := ixP_bnd2 h1.1
      have hv := h.2 (sx m s) (by rw [h.1]; exact hl)
      by_cases g : 5 * (ixP m to).toNat ≤ sx m s ∧ sx m s < 5 * (ixP m to).toNat + 5
      · rw [if_pos g] at hv
        exact ⟨⟨h1, ixP_inj h1.1 ho.1 (by omega)⟩, by omega⟩
      · rw [if_neg g] at hv; omega
    · rintro ⟨⟨h1, h2⟩, rfl⟩
      have hl := sx_lt h1
      have he := sx_eq h1
      have hs2 := h1.2
      rw [h2] at he
      have hv := h.2 (sx m s) (by rw [h.1]; exact hl)
      rw [if_pos (by omega)] at hv
      exact ⟨h1, by omega, hv⟩
  refine ⟨h.1, ⟨fun s c hs => ?_, fun w h0 h4 => (key _ _).2 ⟨⟨⟨ho.1, h0, h4⟩, rfl⟩, rfl⟩⟩, fun s c hs => ?_, fun s c hs => ?_⟩
  · obtain ⟨⟨h1, h2⟩, rfl⟩ := (key s c).1 hs
    obtain ⟨p, w⟩ := s
    simp only at h2
    subst h2
    exact .done w
  · obtain ⟨⟨h1, h2⟩, rfl⟩ := (key s c).1 hs
    exact ⟨h2 ▸ ho, h1.2⟩
  · obtain ⟨⟨h1, h2⟩, rfl⟩ := (key s c).1 hs
    exact Int.mul_nonneg (by omega) (by omega)
end Go.Proofs.Ytlfhhgfhoddgpaa
end
section
set_option linter.unusedSimpArgs false
set_option linter.unusedVariables false
set_option maxHeartbeats 4000000
namespace Go.Proofs.Ytlfhhgfhoddgpaa
open Go.Eng
/-- The states gathered so far: of the cells ahead of column x of row y, and the first w of this cell. -/
def AllTo (m : Mz) (xs : List Stt) (y x w : Nat) : Prop := xs.length ≤ 5 * (y * width m + x) + w ∧ ∀ s, s ∈ xs ↔ SOk m s ∧ (s.1.2 < (y : Int) ∨ (s.1.2 = (y : Int) ∧ (s.1.1 < (x : Int) ∨ (s.1.1 = (x : Int) ∧ s.2 < (w : Int)))))
theorem AllTo.zero {m : Mz} : AllTo m [] 0 0 0 := by
  refine ⟨by simp, fun s => ⟨fun h => by simp at h, fun ⟨h, g⟩ => ?_⟩⟩
  obtain ⟨⟨⟨⟨a, b⟩, c, d⟩, _⟩, e, f⟩ := h
  omega
theorem AllTo.no {m : Mz} {xs : List Stt} {y x w : Nat} (h : AllTo m xs y x w) (ho : ¬ OpenAt m ((x : Int), (y : Int))) : AllTo m xs y x (w + 1) := by
  refine ⟨by have := h.1; omega, fun s => ?_⟩
  rw [h.2]
  constructor
  · rintro ⟨h1, h2⟩; exact ⟨h1, by omega⟩
  · rintro ⟨h1, h2⟩
    refine ⟨h1, ?_⟩
    by_cases e : s.1.2 = (y : Int) ∧ s.1.1 = (x : Int)
    · exact absurd (by rw [show ((x : Int), (y : Int)) = s.1 from (Prod.ext e.2 e.1).symm]; exact h1.1) ho
    · omega
theorem AllTo.all {m : Mz} {xs : List Stt} (h : AllTo m xs m.length 0 0) (s : Stt) : s ∈ xs ↔ SOk m s := by
  rw [h.2]
  constructor
  · exact fun h => h.1
  · intro h1
    refine ⟨h1, .inl ?_⟩
    obtain ⟨⟨a, b⟩, c, d⟩ := h1.1.1
    omega
/-- The first w goal entries. -/
def GoM (to : Pt) (ps : List (Stt × Int)) (w : Nat) : Prop := ps.length = w ∧ (ps.map (·.1)).Nodup ∧ ∀ s c, MT ps s = some c ↔ s.1 = to ∧ (0 ≤ s.2 ∧ s.2 < (w : Int)) ∧ c = 0
theorem GoM.zero {to : Pt} : GoM to [] 0 := ⟨rfl, by simp, fun s c => ⟨fun h => by simp [MT] at h, fun ⟨_, h, _⟩ => by omega⟩⟩
theorem GoM.next {to : Pt} {ps : List (Stt × Int)} {w : Nat} (h : GoM to ps w) : GoM to (setM ps (to, (w : Int)) 0) (w + 1) := by
  obtain ⟨h1, h2, h3⟩ := h
  have hno : MT ps (to, (w : Int)) = none := by
    cases e : MT ps (to, (w : Int)) with
    | none => rfl
    | some c => have := ((h3 _ _).1 e).2.1.2; simp only at this; omega
  refine ⟨by rw [setM_len, hno]; simp [h1], ?_, fun s c => ?_⟩
  · rw [setM_keys, hno]
    simp only [Option.isSome_none, Bool.false_eq_true, if_false]
    rw [List.nodup_append]
    refine ⟨h2, by simp, fun a ha b hb e => ?_⟩
    rw [List.mem_singleton.1 hb] at e
    have := MT_mem.2 (e ▸ ha)
    rw [hno] at this; simp at this
  · rw [MT_set]
    by_cases e : s = (to, (w : Int))
    · rw [if_pos e]
      subst e
      exact ⟨fun h => ⟨rfl, ⟨by simp only; omega, by simp only; omega⟩, by cases h; rfl⟩, fun h => by rw [h.2.2]⟩
    · rw [if_neg e, h3]
      constructor
      · rintro ⟨a, b, c⟩; exact ⟨a, by omega, c⟩
      · rintro ⟨a, b, c⟩
        exact ⟨a, ⟨b.1, by have : s.2 ≠ (w : Int) := fun g => e (Prod.ext a g); omega⟩, c⟩
theorem GoM.ok {m : Mz} {to : Pt} {bend : Int} {ps : List (Stt × Int)} (hb : 0 ≤ bend) (ho : OpenAt m to) (h : GoM to ps 5) : MOk m to bend ps := by
  obtain ⟨h1, h2, h3⟩ := h
  refine ⟨h2, ⟨fun s c hs => ?_, fun w h0 h4 => (h3 _ _).2 ⟨rfl, ⟨h0, by simp only; omega⟩, rfl⟩⟩, fun s c hs => ?_, fun s c hs => ?_⟩
  · obtain ⟨e, _, rfl⟩ := (h3 s c).1 hs
    obtain ⟨p, w⟩ := s
    simp only at e
    subst e
    exact .done w
  · obtain ⟨e, ⟨g1, g2⟩, rfl⟩ := (h3 s c).1 hs
    exact ⟨e ▸ ho, g1, by omega⟩
  · obtain ⟨e, _, rfl⟩ := (h3 s c).1 hs
    exact Int.mul_nonneg (by omega) (by omega)
/-- Nothing is to be lowered at the states of a list ahead of this place. -/
def ClX (m : Mz) (bend : Int) (xs : List Stt) (ps : List (Stt × Int)) (a k : Nat) : Prop := ∀ b j, b < xs.length → j < 4 → (b < a ∨ (b = a ∧ j < k)) → OpenAt m (stepTo (xs.getD b ((0, 0), 0)).1 (j : Int)) →
  ∀ c, MT ps (nextS (xs.getD b ((0, 0), 0)) j) = some c → ∃ c0, MT ps (xs.getD b ((0, 0), 0)) = some c0 ∧ c0 ≤ costS m bend (xs.getD b ((0, 0), 0)) j + c
theorem ClX.zero {m : Mz} {bend : Int} {xs : List Stt} {ps : List (Stt × Int)} : ClX m bend xs ps 0 0 := fun b j hb hj h => by omega
theorem ClX.all {m : Mz} {bend : Int} {xs : List Stt} {ps : List (Stt × Int)} (hx : ∀ s, s ∈ xs ↔ SOk m s) (h : ClX m bend xs ps xs.length 0) : TClosed m bend (MT ps) := fun s hs k hk ho c hc => by
  obtain ⟨b, hb, e⟩ := List.mem_iff_getElem.1 ((hx s).2 hs)
  have e' : xs.getD b ((0, 0), 0) = s := by simp [List.getD, hb, e]
  have := h b k hb hk (.inl hb)
  rw [e'] at this
  exact this ho c hc
/-- The place of a sweep: nothing was lowered yet in it, or the sum is less. -/
def SwM (m : Mz) (to : Pt) (bend : Int) (xs : List Stt) (ps0 ps : List (Stt × Int)) (fl : Bool) (a k : Nat) : Prop :=
  MOk m to bend ps ∧ ((fl = false ∧ ps = ps0 ∧ ClX m bend xs ps a k) ∨ (fl = true ∧ potM bend ps < potM bend ps0))
theorem SwM.mono {m : Mz} {to : Pt} {bend : Int} {xs : List Stt} {ps0 ps : List (Stt × Int)} {fl : Bool} {a k a' k' : Nat} (h : SwM m to bend xs ps0 ps fl a k) (hc : ClX m bend xs ps a k → ClX m bend xs ps a' k') : SwM m to bend xs ps0 ps fl a' k' :=
  ⟨h.1, h.2.imp (fun ⟨x, y, c⟩ => ⟨x, y, hc c⟩) id⟩
theorem SwM.put {m : Mz} {to : Pt} {bend : Int} {xs : List Stt} {ps0 ps ps' : List (Stt × Int)} {fl : Bool} {a k a' k' : Nat} (h : SwM m to bend xs ps0 ps fl a k) (h1 : MOk m to bend ps') (h2 : potM bend ps' < potM bend ps) : SwM m to bend xs ps0 ps' true a' k' :=
  ⟨h1, .inr ⟨rfl, by rcases h.2 with ⟨_, e, _⟩ | ⟨_, g⟩
                     · rw [← e]; exact h2
                     · omega⟩⟩
end Go.Proofs.Ytlfhhgfhoddgpaa
end
section
set_option linter.unusedSimpArgs false
set_option linter.unusedVariables false
namespace Go.Proofs.Ytlfhhgfhoddgpaa
open Go.Eng
/-- The letter of a step. -/
def ltrB (k : Nat) : UInt8 := match k with | 0 => 100 | 1 => 108 | 2 => 114 | _ => 117
/-- From there on, the first step that keeps a cheapest way is taken, up to the goal. -/
inductive CW (m : Mz) (to : Pt) (bend : Int) : Stt → List Nat → Prop where
  | done (w : Int) : CW m to bend (to, w) []
  | step {s : Stt} {ks : List Nat} (k : Nat) (hk : k < 4) (hn : s.1 ≠ to) (hg : Good m to bend s k) (hf : ∀ j, j < k → ¬ Good m to bend s j) (h : CW m to bend (nextS s k) ks) : CW m to bend s (k :: ks)
theorem CW.unique {m : Mz} {to : Pt} {bend : Int} {s : Stt} {a b : List Nat} (h : CW m to bend s a) (g : CW m to bend s b) : a = b := by
  induction h generalizing b with
  | done w =>
    cases g with
    | done => rfl
    | step k hk hn => exact absurd rfl hn
  | step k hk hn hg hf h ih =>
    cases g with
    | done => exact absurd rfl hn
    | step k' hk' hn' hg' hf' h' =>
      have e : k = k' := by
        rcases Nat.lt_trichotomy k k' with x | x | x
        · exact absurd hg (hf' k x)
        · exact x
        · exact absurd hg' (hf k' x)
      subst e
      rw [ih h']
/-- A state on the way: its way has a price, and behind these steps it goes on with all that the state's way has. -/
structure CWTo (m : Mz) (to : Pt) (bend : Int) (s0 : Stt) (ks : List Nat) (s : Stt) (c : Int) : Prop where
  ok : SOk m s
  dist : dist m to bend s = some c
  pos : 0 ≤ c
  all : ∀ ks2, CW m to bend s ks2 → CW m to bend s0 (ks ++ ks2)
  vis : ∃ vs : List Stt, vs.length = ks.length ∧ vs.Nodup ∧ ∀ t ∈ vs, SOk m t ∧ ∃ e, Go.Proofs.Ytlfhhgfhoddgpaa.dist m to bend t = some e ∧ c < e
theorem CWTo.next {m : Mz} {to : Pt} {bend : Int} (hb : 0 ≤ bend) {s0 : Stt} {ks : List Nat} {s : Stt} {c : Int} (h : CWTo m to bend s0 ks s c) {k : Nat} (hk : k < 4) (hn : s.1 ≠ to) (hg : Good m to bend s k) (hf : ∀ j, j < k → ¬ Good m to bend s j) :
    ∃ d, CWTo m to bend s0 (ks ++ [k]) (nextS s k) d ∧ d < c := by
  obtain ⟨d, h1, h2, h3⟩ := hg.less hb h.dist
  refine ⟨d, ⟨SOk.next hk hg.1, h1, h2, fun ks2 h4 => ?_, ?_⟩, h3⟩
  · rw [List.append_assoc]
    exact h.all _ (.step k hk hn hg hf h4)
  · obtain ⟨vs, g1, g2, g3⟩ := h.vis
    refine ⟨vs ++ [s], by simp [g1], ?_, fun t ht => ?_⟩
    · rw [List.nodup_append]
      refine ⟨g2, by simp, fun a ha b hb e => ?_⟩
      rw [List.mem_singleton.1 hb] at e
      obtain ⟨_, e1, e2, e3⟩ := g3 a ha
      rw [e, h.dist] at e2; cases e2; omega
    · rcases List.mem_append.1 ht with ht | ht
      · obtain ⟨q1, e1, e2, e3⟩ := g3 t ht
        exact ⟨q1, e1, e2, by omega⟩
      · rw [List.mem_singleton.1 ht]
        exact ⟨h.ok, c, h.dist, h3⟩
theorem CWTo.len {m : Mz} (hm : MzOk m) {to : Pt} {bend : Int} {s0 : Stt} {ks : List Nat} {s : Stt} {c : Int} (h : CWTo m to bend s0 ks s c) : ks.length ≤ 720 := by
  obtain ⟨vs, g1, g2, g3⟩ := h.vis
  rw [← g1]
  exact states_le hm g2 (fun t ht => (g3 t ht).1)
theorem CWTo.end {m : Mz} {to : Pt} {bend : Int} {s0 : Stt} {ks : List Nat} {s : Stt} {c : Int} (h : CWTo m to bend s0 ks s c) (hn : s.1 = to) : CW m to bend s0 ks := by
  have := h.all [] (by
    obtain ⟨p, w⟩ := s
    simp only at hn
    subst hn
    exact .done w)
  simpa using this
/-- What is asked of the arguments. -/
def AskC (m : Mz) (p q : Pt) (bend : Int) : Prop := MzOk m ∧ OpenAt m p ∧ OpenAt m q ∧ 0 ≤ bend ∧ bend ≤ 1000000000
/-- Bytes as numbers. -/
def bI (bs : List UInt8) : List Int := bs.map fun b => (b.toNat : Int)
theorem bI_len (bs : List UInt8) : (bI bs).length = bs.length := by simp [bI]
theorem bytes_back (bs : List UInt8) : (List.map (fun n : Int => UInt8.ofNat n.toNat) (bI bs)) = bs := by
  unfold bI
  rw [List.map_map]
  conv => rhs; rw [← List.map_id bs]
  refine List.map_congr_left fun b _ => ?_
  simp
theorem bI_rng (bs : List UInt8) : ∀ n ∈ bI bs, 0 ≤ n ∧ n < 256 := fun n hn => by
  obtain ⟨b, _, rfl⟩ := List.mem_map.1 hn
  have := b.toNat_lt
  omega
/-- The letters of steps. -/
def ltrs (ks : List Nat) : List UInt8 := ks.map ltrB
theorem ltrs_snoc (ks : List Nat) (k : Nat) : bI (ltrs (ks ++ [k])) = bI (ltrs ks) ++ [((ltrB k).toNat : Int)] := by simp [bI, ltrs]
theorem ltrs_len (ks : List Nat) : (ltrs ks).length = ks.length := by simp [ltrs]
noncomputable instance {m : Mz} {p q : Pt} {bend : Int} : Decidable (AskC m p q bend) := by unfold AskC; infer_instance
/-- What the cheapest way is. -/
inductive ResC (m : Mz) (p q : Pt) (bend : Int) : List UInt8 → Int → Bool → Prop where
  | bad (h : ¬ AskC m p q bend) : ResC m p q bend [] 0 false
  | none (h : AskC m p q bend) (hd : dist m q bend (p, 4) = none) : ResC m p q bend [] 0 false
  | some (h : AskC m p q bend) {c : Int} {ks : List Nat} (hd : dist m q bend (p, 4) = some c) (hc : 0 ≤ c) (hw : CW m q bend (p, 4) ks) : ResC m p q bend (ltrs ks) c true
theorem ResC.unique {m : Mz} {p q : Pt} {bend : Int} {l l' : List UInt8} {c c' : Int} {b b' : Bool} (h : ResC m p q bend l c b) (g : ResC m p q bend l' c' b') : l = l' ∧ c = c' ∧ b = b' := by
  cases h with
  | bad h =>
    cases g with
    | bad g => exact ⟨rfl, rfl, rfl⟩
    | none g hd => exact absurd g h
    | some g hd hc hw => exact absurd g h
  | none h hd =>
    cases g with
    | bad g => exact absurd h g
    | none g hd' => exact ⟨rfl, rfl, rfl⟩
    | some g hd' hc hw => rw [hd] at hd'; cases hd'
  | some h hd hc hw =>
    cases g with
    | bad g => exact absurd h g
    | none g hd' => rw [hd] at hd'; cases hd'
    | some g hd' hc' hw' =>
      rw [hd] at hd'; cases hd'
      exact ⟨by rw [hw.unique hw'], rfl, rfl⟩
end Go.Proofs.Ytlfhhgfhoddgpaa
end
section
set_option linter.unusedSimpArgs false
set_option linter.unusedVariables false
namespace Go.Proofs.Ytlfhhgfhoddgpaa
open Go.Eng
/-- The text of a way. -/
def strK (ks : List Nat) : ByteArray := ⟨(ltrs ks).toArray⟩
/-- Where it ends. -/
def endK (f : Pt) (ks : List Nat) : Pt := ks.foldl (fun p (k : Nat) => stepTo p (k : Int)) f
theorem endK_snoc (f : Pt) (ks : List Nat) (k : Nat) : endK f (ks ++ [k]) = stepTo (endK f ks) (k : Int) := by simp [endK]
theorem take_snoc' {ks : List Nat} {i : Nat} (h : i < ks.length) : ks.take (i + 1) = ks.take i ++ [ks.getD i 0] := by
  rw [List.take_add_one]; simp [List.getD, h]
/-- All of its cells but the first one are open. -/
def WayK (m : Mz) (f : Pt) (ks : List Nat) : Prop := ∀ i, i < ks.length → ks.getD i 0 < 4 ∧ OpenAt m (endK f (ks.take (i + 1)))
theorem WayK.nil {m : Mz} {f : Pt} : WayK m f [] := fun i h => by simp at h
theorem WayK.snoc {m : Mz} {f : Pt} {ks : List Nat} (h : WayK m f ks) {k : Nat} (hk : k < 4) (ho : OpenAt m (stepTo (endK f ks) (k : Int))) : WayK m f (ks ++ [k]) := fun i hi => by
  by_cases e : i < ks.length
  · have := h i e
    rw [show (ks ++ [k]).getD i 0 = ks.getD i 0 by simp [List.getD, List.getElem?_append_left e], List.take_append_of_le_length (by omega)]
    exact this
  · have : i = ks.length := by simp at hi; omega
    subst this
    rw [show (ks ++ [k]).getD ks.length 0 = k by simp [List.getD], List.take_of_length_le (by simp), endK_snoc]
    exact ⟨hk, ho⟩
theorem WayK.take {m : Mz} {f : Pt} {ks : List Nat} (h : WayK m f ks) (n : Nat) : WayK m f (ks.take n) := fun i hi => by
  have hi' : i < n ∧ i < ks.length := by rw [List.length_take] at hi; omega
  have := h i hi'.2
  rw [show (ks.take n).getD i 0 = ks.getD i 0 by simp [List.getD, List.getElem?_take, hi'.1], List.take_take, show min (i + 1) n = i + 1 by omega]
  exact this
theorem WayK.end {m : Mz} {f : Pt} {ks : List Nat} (h : WayK m f ks) (hf : OpenAt m f) : OpenAt m (endK f ks) := by
  by_cases e : ks.length = 0
  · have : ks = [] := List.eq_nil_of_length_eq_zero e
    subst this; exact hf
  · have := (h (ks.length - 1) (by omega)).2
    rwa [show ks.length - 1 + 1 = ks.length by omega, List.take_length] at this
/-- Its first cells. -/
def cellsK (f : Pt) (ks : List Nat) (n : Nat) : List Pt := (List.range (n + 1)).map fun i => endK f (ks.take i)
theorem cellsK_len (f : Pt) (ks : List Nat) (n : Nat) : (cellsK f ks n).length = n + 1 := by simp [cellsK]
theorem cellsK_get (f : Pt) (ks : List Nat) {n i : Nat} (h : i ≤ n) : (cellsK f ks n).getD i (0, 0) = endK f (ks.take i) := by
  have : i < n + 1 := by omega
  simp [cellsK, List.getD, this]
theorem cellsK_succ (f : Pt) (ks : List Nat) (n : Nat) : cellsK f ks (n + 1) = cellsK f ks n ++ [endK f (ks.take (n + 1))] := by
  simp [cellsK, List.range_succ (n := n + 1)]
theorem strK_size (ks : List Nat) : (strK ks).size = ks.length := by
  show (ltrs ks).toArray.size = _
  simp [ltrs]
theorem byteAt_strK {ks : List Nat} {i : Nat} (h : i < ks.length) : byteAt (strK ks) i = ((ltrB (ks.getD i 0)).toNat : Int) := by
  unfold byteAt strK ltrs
  simp [List.getD, h]
theorem letter_ltrB {k : Nat} (h : k < 4) : letter ((ltrB k).toNat : Int) = (k : Int) := by
  match k, h with
  | 0, _ => rfl
  | 1, _ => rfl
  | 2, _ => rfl
  | 3, _ => rfl
theorem wayTo_K {m : Mz} {f : Pt} {ks : List Nat} (h : WayK m f ks) : ∀ i, i ≤ ks.length → wayTo m f (strK ks) i = some (cellsK f ks i)
  | 0, _ => rfl
  | i + 1, hi => by
    have hi' : i < ks.length := by omega
    have ih := wayTo_K h i (by omega)
    obtain ⟨h1, h2⟩ := h i hi'
    have hst : stepTo ((cellsK f ks i).getD i (0, 0)) (letter (byteAt (strK ks) i)) = endK f (ks.take (i + 1)) := by
      rw [cellsK_get f ks (Nat.le_refl _), byteAt_strK hi', letter_ltrB h1, take_snoc' hi', endK_snoc]
    unfold wayTo
    rw [ih]
    simp only
    rw [hst, if_pos ⟨by rw [byteAt_strK hi', letter_ltrB h1]; omega, h2⟩, cellsK_succ]
theorem wayOf_K {m : Mz} {f : Pt} {ks : List Nat} (h : WayK m f ks) : wayOf m f (strK ks) = some (cellsK f ks ks.length) := by
  unfold wayOf
  rw [strK_size]
  exact wayTo_K h _ (Nat.le_refl _)
end Go.Proofs.Ytlfhhgfhoddgpaa
end
section
set_option linter.unusedSimpArgs false
set_option linter.unusedVariables false
namespace Go.Proofs.Ytlfhhgfhoddgpaa
open Go.Eng
/-- One cell costs 1 more, but 9 at most. -/
def bump (m : Mz) (p : Pt) : Mz := m.set p.2.toNat ((m.getD p.2.toNat []).set p.1.toNat (if cell m p + 1 ≤ 9 then cell m p + 1 else 9))
/-- The cells of a list cost 1 more. -/
def bumps (m : Mz) (S : List Pt) : Mz := S.foldl bump m
theorem bumps_snoc (m : Mz) (S : List Pt) (p : Pt) : bumps m (S ++ [p]) = bump (bumps m S) p := by simp [bumps]
theorem bump_len (m : Mz) (p : Pt) : (bump m p).length = m.length := by simp [bump]
theorem bump_row (m : Mz) (p : Pt) (y : Nat) : ((bump m p).getD y []).length = (m.getD y []).length := by
  unfold bump
  by_cases h : p.2.toNat = y
  · subst h
    by_cases g : p.2.toNat < m.length
    · simp [List.getD, g]
    · rw [List.set_eq_of_length_le (by omega)]
  · simp only [List.getD]
    rw [List.getElem?_set_ne h]
theorem bump_width (m : Mz) (p : Pt) : width (bump m p) = width m := bump_row m p 0
theorem bump_in (m : Mz) (p q : Pt) : InMz (bump m p) q ↔ InMz m q := by
  unfold InMz
  rw [bump_len, bump_width]
theorem bump_cell {m : Mz} (hm : MzOk m) {p q : Pt} (hp : InMz m p) (hq : InMz m q) : cell (bump m p) q = if q = p then (if cell m p + 1 ≤ 9 then cell m p + 1 else 9) else cell m q := by
  obtain ⟨p1, p2, p3, _⟩ := hm.cell hp
  obtain ⟨q1, q2, q3, _⟩ := hm.cell hq
  obtain ⟨⟨a1, a2⟩, a3, a4⟩ := hp
  obtain ⟨⟨b1, b2⟩, b3, b4⟩ := hq
  by_cases e : q = p
  · rw [if_pos e, e]
    unfold bump
    show ((m.set p.2.toNat _).getD p.2.toNat []).getD p.1.toNat 0 = _
    rw [show ∀ r : List Int, (m.set p.2.toNat r).getD p.2.toNat [] = r from fun r => by simp [List.getD, p1], getD_setE p3]
  · rw [if_neg e]
    unfold bump
    show ((m.set p.2.toNat _).getD q.2.toNat []).getD q.1.toNat 0 = _
    by_cases h : p.2.toNat = q.2.toNat
    · have hx : p.1.toNat ≠ q.1.toNat := fun h2 => e (Prod.ext (by omega) (by omega))
      rw [← h, show ∀ r : List Int, (m.set p.2.toNat r).getD p.2.toNat [] = r from fun r => by simp [List.getD, p1], getD_setN hx]
      unfold cell
      rw [h]
    · rw [show ∀ r : List Int, (m.set p.2.toNat r).getD q.2.toNat [] = m.getD q.2.toNat [] from fun r => by simp only [List.getD]; rw [List.getElem?_set_ne h]]
      rfl
theorem bump_ok {m : Mz} (hm : MzOk m) {p : Pt} (hp : OpenAt m p) : MzOk (bump m p) := by
  have hb := hm
  obtain ⟨h1, h2, h3⟩ := hb
  refine ⟨by rw [bump_len]; exact h1, by rw [bump_width]; exact h2, fun y hy => ?_⟩
  rw [bump_len] at hy
  obtain ⟨g1, g2⟩ := h3 y hy
  refine ⟨by rw [bump_row, bump_width]; exact g1, fun x hx => ?_⟩
  rw [bump_row] at hx
  have hq : InMz m ((x : Int), (y : Int)) := ⟨⟨by simp only; omega, by simp only; omega⟩, by simp only; omega, by simp only; omega⟩
  have hc := bump_cell hm hp.1 hq
  have hv : ((bump m p).getD y []).getD x 0 = cell (bump m p) ((x : Int), (y : Int)) := by unfold cell; simp
  rw [hv, hc]
  have := hp.2
  have hcp := (hm.cell hp.1).2.2.2
  have hcq := (hm.cell hq).2.2.2
  split
  · split <;> omega
  · omega
theorem bump_open {m : Mz} (hm : MzOk m) {p q : Pt} (hp : OpenAt m p) (hq : OpenAt m q) : OpenAt (bump m p) q := by
  refine ⟨(bump_in m p q).2 hq.1, ?_⟩
  rw [bump_cell hm hp.1 hq.1]
  have := hp.2
  have := hq.2
  split
  · split <;> omega
  · omega
/-- All of it, for a list without doubles. -/
theorem bumps_all {m : Mz} (hm : MzOk m) : ∀ (S : List Pt), S.Nodup → (∀ p ∈ S, OpenAt m p) →
    MzOk (bumps m S) ∧ (bumps m S).length = m.length ∧ width (bumps m S) = width m ∧ (∀ y, ((bumps m S).getD y []).length = (m.getD y []).length) ∧ (∀ q, OpenAt m q → OpenAt (bumps m S) q) ∧
    ∀ q, InMz m q → cell (bumps m S) q = if q ∈ S then (if cell m q + 1 ≤ 9 then cell m q + 1 else 9) else cell m q := by
  intro S
  induction S generalizing m with
  | nil => intro _ _; exact ⟨hm, rfl, rfl, fun _ => rfl, fun _ h => h, fun q _ => by simp [bumps]⟩
  | cons p r ih =>
    intro hn ho
    rw [List.nodup_cons] at hn
    have hp := ho p (by simp)
    have hb := bump_ok hm hp
    obtain ⟨h1, h2, h3, h4, h5, h6⟩ := ih hb hn.2 (fun q hq => bump_open hm hp (ho q (List.mem_cons_of_mem _ hq)))
    have e : bumps m (p :: r) = bumps (bump m p) r := rfl
    rw [e]
    refine ⟨h1, h2.trans (bump_len m p), h3.trans (bump_width m p), fun y => (h4 y).trans (bump_row m p y), fun q hq => h5 q (bump_open hm hp hq), fun q hq => ?_⟩
    rw [h6 q ((bump_in m p q).2 hq), bump_cell hm hp.1 hq]
    by_cases e1 : q = p
    · subst e1
      rw [if_neg hn.1, if_pos (rfl : q = q), if_pos (show q ∈ q :: r from List.mem_cons_self)]
    · rw [if_neg e1]
      by_cases e2 : q ∈ r
      · rw [if_pos e2, if_pos (List.mem_cons_of_mem _ e2)]
      · rw [if_neg e2, if_neg (by simp [e1, e2])]
/-- The crowded maze of a way. -/
noncomputable def crowd (m : Mz) (L : List Pt) : Mz := bumps m (setOf L)
theorem setOf_isL {m : Mz} {L : List Pt} (h : ∀ q ∈ L, OpenAt m q) : IsSet L (setOf L) := by
  refine setOf_is ⟨ptsTo (fun q => q ∈ L) m.length (width m) 0, ptsTo_sorted _ _ _, fun p => ?_⟩
  rw [mem_ptsTo]
  constructor
  · exact fun h => h.2.2
  · intro hp
    obtain ⟨⟨a, b⟩, c, d⟩ := (h p hp).1
    exact ⟨by omega, by omega, hp⟩
theorem setOf_nd {m : Mz} {L : List Pt} (h : ∀ q ∈ L, OpenAt m q) : (setOf L).Nodup := by
  have hs := (setOf_isL h).1
  exact hs.imp (fun {a b} (hab : ltP a b) (e : a = b) => ltP_irr b (e ▸ hab))
theorem setOf_mem {m : Mz} {L : List Pt} (h : ∀ q ∈ L, OpenAt m q) (q : Pt) : q ∈ setOf L ↔ q ∈ L := (setOf_isL h).2 q
theorem way_open {m : Mz} {f : Pt} (hf : OpenAt m f) {s : ByteArray} {L : List Pt} (hL : wayOf m f s = some L) : ∀ q ∈ L, OpenAt m q := fun q hq => by
  obtain ⟨i, hi, e⟩ := List.mem_iff_getElem.1 hq
  have hl := wayTo_len hL
  have := wayTo_open hf hL i (by omega)
  rwa [show L.getD i (0, 0) = q by simp [List.getD, hi, e]] at this
end Go.Proofs.Ytlfhhgfhoddgpaa
end
section
set_option linter.unusedSimpArgs false
set_option linter.unusedVariables false
set_option maxHeartbeats 2000000
namespace Go.Proofs.Ytlfhhgfhoddgpaa
open Go.Eng
/-- The numbers from k on. -/
def marks (k : Int) (n : Nat) : List Int := (List.range n).map (fun j : Nat => k + (j : Int))
theorem lent_pNew {H pre post : List ABox} {P : Mz} {m k g : Nat} (hm : m = P.length) (hk : k = H.length + (pre.length + P.length)) (hg : g = H.length + pre.length) :
    LentV (H ++ (pre ++ (rowsB P ++ (.row false (.own .i64) (refs g P) :: post)))) (.sl 1 k 0 m) (.rd (.sli .i64) (P)) := by
  subst hk; subst hg
  exact LentV.refs (pre := []) (post := []) lk_own (fun i hi => lk_row hi) hm
theorem OwnLt.app {m : Nat} {a b : List (Option (Nat × Nat))} (h : OwnLt m a) (k : OwnLt m b) : OwnLt m (a ++ b) := fun i hi p hp => by
  simp only [List.getD] at hp
  by_cases g : i < a.length
  · rw [List.getElem?_append_left g] at hp; exact h i g p hp
  · rw [List.getElem?_append_right (by omega)] at hp
    exact k (i - a.length) (by simp at hi; omega) p hp
theorem RenB.ownAt {m : Nat} {idx : List Nat} {ro : Bool} {k : IntKind} {p q : List (Option (Nat × Nat))} {i j len : Nat} (hp : OwnLt m p) (hq : OwnLt m q) (hi : idx[j]? = some i) :
    RenB m idx (.row ro (.own k) (p ++ some (m + j, len) :: q)) (.row ro (.own k) (p ++ some (m + i, len) :: q)) := by
  refine .row (by simp) (fun s t hs ht => ?_)
  obtain rfl : t = 0 := by have : t < 1 := ht; omega
  show RenV m idx (((ETy.own k).enc ((p ++ some (m + j, len) :: q).getD s none)).getD 0 .junk) (((ETy.own k).enc ((p ++ some (m + i, len) :: q).getD s none)).getD 0 .junk)
  rcases Nat.lt_trichotomy s p.length with g | g | g
  · have e : ∀ y : Option (Nat × Nat), (p ++ y :: q).getD s none = p.getD s none := fun y => by simp only [List.getD]; rw [List.getElem?_append_left g]
    rw [e, e]
    exact .low (own_ids (fun z hz => hp s g z hz) 0 Nat.one_pos)
  · have e : ∀ y : Option (Nat × Nat), (p ++ y :: q).getD s none = y := fun y => by subst g; simp [List.getD]
    rw [e, e]
    exact .sl hi
  · have e : ∀ y : Option (Nat × Nat), (p ++ y :: q).getD s none = q.getD (s - (p.length + 1)) none := fun y => by
      simp only [List.getD]
      rw [List.getElem?_append_right (by omega), show s - p.length = (s - (p.length + 1)) + 1 by omega, List.getElem?_cons_succ]
    rw [e, e]
    have hs' : s - (p.length + 1) < q.length := by simp at hs; omega
    exact .low (own_ids (fun z hz => hq _ hs' z hz) 0 Nat.one_pos)
end Go.Proofs.Ytlfhhgfhoddgpaa
end

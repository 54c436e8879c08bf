import Derived.Test.YtlkamicaoljefaaS2
set_option linter.unusedSimpArgs false
set_option linter.unusedVariables false
namespace Go.Eng
/-- A row of points rewritten, other blocks left. -/
theorem RelH.rewriteRow {c : Ctx} {H : List ABox} {w w' : World} (h : RelH c H w) {k : Nat} {xs ys : List (Int × Int)} {l : Loc} (hk : H[k]? = some (.row false .pt xs)) (hl : c.loc k = some l)
    {cells cells' : Array Value} {T : TypeId} (hb : w.heap[l.blk]? = some (.cells cells T (0, 0))) (hb' : w'.heap[l.blk]? = some (.cells cells' T (0, 0))) (hsz : cells'.size = cells.size)
    (hoth : ∀ b, b ≠ l.blk → b < w.heap.size → w'.heap[b]? = w.heap[b]?) (hos : w'.os = w.os) (ht : w'.tape = w.tape) (ho : w'.output = w.output) (hlen : ys.length = xs.length)
    (hc : ∀ i, i < ys.length → cells'[l.off + i * 2 + 0]? = some (.int .i64 (ys.getD i (0, 0)).1) ∧ cells'[l.off + i * 2 + 1]? = some (.int .i64 (ys.getD i (0, 0)).2)) : RelH c (H.set k (.row false .pt ys)) w' := by
  obtain ⟨l2, hl2, cells2, T2, g1, g2, g3, g4, g5⟩ := h.box k _ hk rfl
  rw [hl] at hl2; cases hl2
  rw [hb] at g1; cases g1
  have hseal : c.sealed l.blk = none := g2
  have hkl : k < H.length := (List.getElem?_eq_some_iff.1 hk).1
  have live : ∀ (q : Nat) (X : ABox), (H.set k (.row false .pt ys))[q]? = some X → X.live = true → ∃ X0, H[q]? = some X0 ∧ X0.live = true := fun q X hq hX => by
    by_cases e : q = k
    · subst e; exact ⟨_, hk, rfl⟩
    · rw [List.getElem?_set_ne (Ne.symm e)] at hq; exact ⟨X, hq, hX⟩
  refine ⟨hos.trans h.os, ht.trans h.tape, ho.trans h.output, fun b o hbo => ?_, fun q hq => h.dom q (by simpa using hq), fun q X hq hX => ?_, fun q q' a a' X X' h1 h2 h3 h4 h5 h6 h7 => ?_⟩
  · have hw := h.sealed b o hbo
    have hne : b ≠ l.blk := fun e => by rw [e, hseal] at hbo; cases hbo
    rw [hoth b hne (Array.getElem?_eq_some_iff.1 hw).1]; exact hw
  · by_cases e : q = k
    · subst e
      rw [List.getElem?_set_self hkl] at hq
      cases hq
      refine ⟨l, hl, cells', T, hb', g2, by rw [hsz]; exact g3, by rw [hlen]; exact g4, fun i j hi hj => ?_⟩
      have hj' : j < 2 := hj
      have := hc i hi
      match j, hj' with
      | 0, _ => exact ⟨_, this.1, .v _⟩
      | 1, _ => exact ⟨_, this.2, .v _⟩
    · rw [List.getElem?_set_ne (Ne.symm e)] at hq
      obtain ⟨a, ha, hB⟩ := h.box q X hq hX
      have hne : a.blk ≠ l.blk := fun eb => e (h.inj q k a l X _ hq hX hk rfl ha hl eb)
      exact ⟨a, ha, hB.carry (.refl c) (fun _ => hoth _ hne (hB.blk_lt hX)) (fun _ => rfl)⟩
  · obtain ⟨X0, g6, g7⟩ := live q X h1 h2
    obtain ⟨X1, g8, g9⟩ := live q' X' h3 h4
    exact h.inj q q' a a' X0 X1 g6 g7 g8 g9 h5 h6 h7
end Go.Eng

/- A world in which the package variables that reading looks at hold what the program's text lays. -/
import Derived.Test.YtlgagjboijkpgaaDoorRows
import Derived.Test.YtlgagjboijkpgaaDoorRA
import Derived.Test.YtlgagjboijkpgaaDoorL0
set_option linter.unusedSimpArgs false
set_option linter.unusedVariables false
namespace Go.Proofs.YtlgagjboijkpgaaDoor
open Go.RowKit Go.Lib Go.Eng

noncomputable def low : Nat := (World.holding Tryd.prog default ⟨#[], #[], []⟩).heap.size
def textRange : List UInt8 := [118, 97, 108, 117, 101, 32, 111, 117, 116, 32, 111, 102, 32, 114, 97, 110, 103, 101]
def textSyntax : List UInt8 := [105, 110, 118, 97, 108, 105, 100, 32, 115, 121, 110, 116, 97, 120]
def tabAcc : List Int := [128, 191, 160, 191, 128, 159, 144, 191, 128, 143, 0, 0, 0, 0, 0, 0, 0, 0, 0, 0, 0, 0, 0, 0, 0, 0, 0, 0, 0, 0, 0, 0]
noncomputable def laidWorldR (os : Os) : World :=
  let w0 := World.holding Tryd.prog os ⟨#[.cells #[.string ⟨textRange.toArray⟩] 159, .cells #[.string ⟨textSyntax.toArray⟩] 159], #[], []⟩
  { w0 with heap := ((((((w0.heap.modify 0 (put powCells)).modify 4 (put (u8s tab32))).modify 5 (put (u8s tab64))).modify 2 (put #[.iface 157 (.pointer (some ⟨low, 0, none⟩))])).modify 1 (put #[.iface 157 (.pointer (some ⟨low + 1, 0, none⟩))])).modify 6 (put (Go.Pinned.utf8FirstZ.map fun (z : Nat) => Value.int .u8 (Int.ofNat z)).toArray)).modify 7 (put (u8s tabAcc)) }
theorem laidR_met (os : Os) (args : Array Value) : laidMetH Tryd.prog Rows.fnExactReadDecimalRow.laid ((laidWorldR os).forCall (fun _ _ => 0) ⟨#[], args, []⟩).memory :=
  laidMet_of_run' 8 (by kernel_rfl) (by kernel_rfl)
theorem laidRL_met (os : Os) (args : Array Value) : laidMetH Tryd.prog Rows.fnExactReadListRow.laid ((laidWorldR os).forCall (fun _ _ => 0) ⟨#[], args, []⟩).memory :=
  laidMet_of_run' 8 (by kernel_rfl) (by kernel_rfl)
theorem gSyn : Tryd.prog.globalNamed "strconv.ErrSyntax" = some 1 := by kernel_rfl
theorem gRng : Tryd.prog.globalNamed "strconv.ErrRange" = some 2 := by kernel_rfl
theorem gSynTy : (Tryd.prog.globals[1]?).map (·.type) = some 71 := by kernel_rfl
theorem gRngTy : (Tryd.prog.globals[2]?).map (·.type) = some 71 := by kernel_rfl
theorem starName : "*" ++ "errors.errorString" = "*errors.errorString" := by decide
theorem row157 (u : TypeId) (h : Tryd.prog.typeName? 3 u = some "*errors.errorString") : u = 157 :=
  typeName_ptr_named (nm := "errors.errorString") (by rw [starName]; kernel_rfl) (by kernel_rfl) (by decide) u (by rw [starName]; exact h)
theorem cells159 : Tryd.prog.cellsOf 159 = 1 := by kernel_rfl
theorem cells9 : Tryd.prog.cellsOf 9 = 1 := by kernel_rfl
theorem heap_of_var {W : World} {n : String} {g : Nat} {cs : Array Value} (hg : Tryd.prog.globalNamed n = some g) (h : W.var? Tryd.prog n = some cs) : ∃ T fr, W.heap[g]? = some (.cells cs T fr) := by
  unfold World.var? at h
  rw [hg] at h
  simp only [Option.bind_some] at h
  split at h
  · rename_i c T fr e
    cases h
    exact ⟨T, fr, e⟩
  · cases h
theorem syn_of {W : World} {r : List (String × DataW Unit)} (h : laidMet Tryd.prog (("strconv.ErrSyntax", Rows.laid_strconv_ErrSyntax) :: r) W) : ∃ t p T fr, W.heap[1]? = some (.cells #[.iface t p] T fr) := by
  obtain ⟨a, s, hv, -, -, -⟩ := laid_sentinel h gSyn gSynTy Tryd.underlying71 row157 Tryd.underlying157 Tryd.underlying159 rfl rfl Tryd.underlying9 cells159 cells9
  obtain ⟨T, fr, h⟩ := heap_of_var gSyn hv
  exact ⟨_, _, T, fr, h⟩
theorem rng_ofL {W : World} {r : List (String × DataW Unit)} (h : laidMet Tryd.prog (("strconv.ErrRange", Rows.laid_strconv_ErrRange) :: r) W) : ∃ t p T fr, W.heap[2]? = some (.cells #[.iface t p] T fr) := by
  obtain ⟨a, s, hv, -, -, -⟩ := laid_sentinel h gRng gRngTy Tryd.underlying71 row157 Tryd.underlying157 Tryd.underlying159 rfl rfl Tryd.underlying9 cells159 cells9
  obtain ⟨T, fr, h⟩ := heap_of_var gRng hv
  exact ⟨_, _, T, fr, h⟩
theorem pow_ofL {W : World} {r : List (String × DataW Unit)} (h : laidMet Tryd.prog (("internal/strconv.uint64pow10", Rows.laid_internal_strconv_uint64pow10) :: r) W) : ∃ T fr, W.heap[0]? = some (.cells powCells T fr) :=
  cells_of_tabIs (tabIs_of_head gPow gPowTy Tryd.underlying139 Tryd.underlying120 cells120 cells139 h)
/-- The tables that a law may look at. -/
def HasTabs (W : World) (ts : List (Nat × Obj)) : Prop := (∀ t ∈ ts, W.heap[t.1]? = some t.2)
theorem tabs_of_laid {W : World} (h : laidMetH Tryd.prog Rows.fnExactReadDecimalRow.laid W) : ∃ o1 o2 o3, W.heap[0]? = some o1 ∧ W.heap[1]? = some o2 ∧ W.heap[2]? = some o3 ∧ HasVars [.tab 0 o1, .tab 1 o2, .tab 2 o3] := by
  have hL : laidMet Tryd.prog Rows.fnExactReadDecimalRow.laid W := h
  obtain ⟨T, fr, h0⟩ := pow_ofL (laidMet.tail (laidMet.tail hL))
  obtain ⟨t2, p2, T2, fr2, h2⟩ := rng_ofL (laidMet.tail (laidMet.tail (laidMet.tail hL)))
  obtain ⟨t1, p1, T1, fr1, h1⟩ := syn_of (laidMet.tail (laidMet.tail (laidMet.tail (laidMet.tail hL))))
  exact ⟨_, _, _, h0, h1, h2, ⟨0, T, fr, rfl⟩, ⟨1, t1, p1, T1, fr1, rfl⟩, ⟨2, t2, p2, T2, fr2, rfl⟩⟩
end Go.Proofs.YtlgagjboijkpgaaDoor

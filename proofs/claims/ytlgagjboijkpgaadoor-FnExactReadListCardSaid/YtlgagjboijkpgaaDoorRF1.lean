/- strconv.ParseInt at base 10, 64 bits: the library's contract, laid at this program; as a contract here. -/
import Derived.Test.YtlgagjboijkpgaaDoorF0
import Derived.Shelf.Strconv.ParseIntPublic10
import Derived.Lib.ParseIntBTie
set_option linter.unusedSimpArgs false
set_option linter.unusedVariables false
namespace Go.Proofs.YtlgagjboijkpgaaDoor
open Go.Shelf Go.RowKit Go.Lib Go.Sort Go.Proofs Go.Eng

shelf_lay LaysC.n174 Nm 174 at Tryd as lays174
theorem parse55_ok_ac (s : ByteArray) (hs : s.size ≤ 1048576) (v : Int) (h : parseIntB 64 s.data.toList = .ok v) (H : List ABox) :
    AC Tryd.prog 55 [.v (.string (s)), .v (.int .i64 (10)), .v (.int .i64 (64))] H (fun r H' => r = .tup [.v (.int .i64 (v)), .v .nilIface] ∧ H' = H) := by
  refine AC.lib1 ⟨_, Tryd.func55, by decide, by decide⟩ fun c vs w hv hh => ?_
  obtain ⟨x, y, z, rfl, hx, hy, hz⟩ := hv.args3
  have ex := hx.v_inv; have ey := hy.v_inv; have ez := hz.v_inv; subst ex; subst ey; subst ez
  refine (Any.strconv_ParseInt_10_at64_ok lays174 s (by omega) v h w).mono ?_
  rintro e w' ⟨rfl, hw⟩
  refine ⟨_, rfl, .tup (vs := [.int .i64 v, .nilIface]) rfl (fun i hi => by
    match i, hi with
    | 0, _ => exact .v _
    | 1, _ => exact .v _), ?_⟩
  rcases hw with hw | ⟨t, rfl⟩
  · rw [hw]; exact .refl _ _
  · exact bytesWorld_below _ _ _
theorem g15 : lays174_ren.g 15 = 1 := by kernel_rfl
theorem g16 : lays174_ren.g 16 = 2 := by kernel_rfl
theorem cell_of {w : World} {g : Nat} {ev : Value} {T : TypeId} {fr : Nat × Nat} (h : w.heap[g]? = some (.cells #[ev] T fr)) : w.cell? ⟨g, 0, none⟩ = some ev := by
  simp [World.cell?, h]
theorem parse55_bad_ac (s : ByteArray) (hs : s.size ≤ 1048576) (h : ∀ v, parseIntB 64 s.data.toList ≠ .ok v) {H : List ABox} {k1 k2 : Nat} {t1 t2 T1 T2 : TypeId} {p1 p2 : Value} {fr1 fr2 : Nat × Nat}
    (hk1 : H[k1]? = some (.tab 1 (.cells #[.iface t1 p1] T1 fr1))) (hk2 : H[k2]? = some (.tab 2 (.cells #[.iface t2 p2] T2 fr2))) :
    AC Tryd.prog 55 [.v (.string (s)), .v (.int .i64 (10)), .v (.int .i64 (64))] H (fun r H' => ∃ x : Int × TypeId × Value, True ∧ r = .tup [.v (.int .i64 (x.1)), .v (.iface x.2.1 x.2.2)] ∧ H' = H) := by
  refine AC.lib ⟨_, Tryd.func55, by decide, by decide⟩ fun c vs w hv hh => ?_
  obtain ⟨x, y, z, rfl, hx, hy, hz⟩ := hv.args3
  have ex := hx.v_inv; have ey := hy.v_inv; have ez := hz.v_inv; subst ex; subst ey; subst ez
  cases hp : parseIntB 64 s.data.toList with
  | ok v => exact absurd hp (h v)
  | «syntax» =>
    refine (Any.strconv_ParseInt_10_at64_syntax lays174 s (by omega) hp (.iface t1 p1) w (by rw [g15]; exact cell_of (hh.tab hk1)) (.inr ⟨_, _, rfl⟩)).mono ?_
    rintro e w' ⟨N, rfl, _, _, hb⟩
    exact ⟨(0, lays174_ren.t 168, .pointer (some ⟨N, 0, none⟩)), _, trivial, rfl, .tup (vs := [_, _]) rfl (fun i hi => by
      match i, hi with
      | 0, _ => exact .v _
      | 1, _ => exact .v _), hb⟩
  | range =>
    refine (Any.strconv_ParseInt_10_at64_range lays174 s (by omega) hp (.iface t2 p2) w (by rw [g16]; exact cell_of (hh.tab hk2)) (.inr ⟨_, _, rfl⟩)).mono ?_
    rintro e w' ⟨N, rfl, _, _, hb⟩
    exact ⟨(intSat 64 s.data.toList, lays174_ren.t 168, .pointer (some ⟨N, 0, none⟩)), _, trivial, rfl, .tup (vs := [_, _]) rfl (fun i hi => by
      match i, hi with
      | 0, _ => exact .v _
      | 1, _ => exact .v _), hb⟩
end Go.Proofs.YtlgagjboijkpgaaDoor

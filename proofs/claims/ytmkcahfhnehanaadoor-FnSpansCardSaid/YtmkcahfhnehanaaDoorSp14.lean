/- Texts of this seat that the law stands on, put together. No conditions. -/
import Derived.Lib.ParseIntBCases
import Derived.Lib.ParseIntBTie
import Derived.Shelf.Strconv.ParseIntPublic10
import Derived.Lib.SplitLaws
import Derived.Shelf.Strings.Cut
import Derived.Shelf.Strings.Split
import Derived.Test.YtmkcahfhnehanaaDoorSp13
section
set_option linter.unusedSimpArgs false
set_option linter.unusedVariables false
set_option linter.unusedSimpArgs false
set_option linter.unusedVariables false
set_option linter.unusedSimpArgs false
set_option linter.unusedVariables false
set_option maxHeartbeats 1000000
set_option linter.unusedSimpArgs false
set_option linter.unusedVariables false
set_option maxHeartbeats 1000000
set_option linter.unusedSimpArgs false
set_option linter.unusedVariables false
set_option linter.unusedSimpArgs false
set_option linter.unusedVariables false
set_option linter.unusedSimpArgs false
set_option linter.unusedVariables false
set_option maxHeartbeats 1000000
set_option linter.unusedSimpArgs false
set_option linter.unusedVariables false
set_option maxHeartbeats 1000000
set_option linter.unusedSimpArgs false
set_option linter.unusedVariables false
set_option maxHeartbeats 1000000
set_option linter.unusedSimpArgs false
set_option linter.unusedVariables false
/- The plain law of reading decimals; no program in sight. -/
namespace Go.Proofs.YtmkcahfhnehanaaDoor
open Go.Lib Go.Eng
/-- A digit read behind a number. -/
def dstep (n : Int) (c : UInt8) : Int := if 48 ≤ c.toNat ∧ c.toNat ≤ 57 then 10 * n + ((c.toNat : Int) - 48) else n
def digs (n : Int) (l : List UInt8) : Int := l.foldl dstep n
theorem digs_snoc (n : Int) (l : List UInt8) (c : UInt8) : digs n (l ++ [c]) = dstep (digs n l) c := by simp [digs]
theorem dstep_digit (n : Int) (r : Nat) (h : r < 10) : dstep n (UInt8.ofNat (48 + r)) = 10 * n + r := by
  unfold dstep
  rw [UInt8.toNat_ofNat', Nat.mod_eq_of_lt (by omega), if_pos (by omega)]
  omega
theorem digs_dec : ∀ (u : Nat), digs 0 (decDigits u) = u := by
  intro u
  induction u using Nat.strongRecOn with
  | _ u ih =>
    by_cases h : u < 10
    · rw [decDigits_small h]
      show dstep 0 _ = _
      rw [dstep_digit 0 u h]; omega
    · rw [decDigits_big h, digs_snoc, ih (u / 10) (by omega), dstep_digit _ _ (by omega)]
      omega
theorem digs_itoa (n : Int) : digs 0 (itoa n) = n.natAbs := by
  rw [itoa_abs]
  split
  · have e : digs 0 (45 :: decDigits n.natAbs) = digs (dstep 0 45) (decDigits n.natAbs) := rfl
    rw [e, show dstep 0 45 = 0 by decide, digs_dec]
  · exact digs_dec _
theorem decDigits_head (u : Nat) : ∃ (d : Nat) (r : List UInt8), d < 10 ∧ decDigits u = UInt8.ofNat (48 + d) :: r := by
  induction u using Nat.strongRecOn with
  | _ u ih =>
    by_cases h : u < 10
    · exact ⟨u, [], h, decDigits_small h⟩
    · obtain ⟨d, r, h1, h2⟩ := ih (u / 10) (by omega)
      exact ⟨d, r ++ [UInt8.ofNat (48 + u % 10)], h1, by rw [decDigits_big h, h2]; rfl⟩
theorem parseUintM_app (M : Nat) (r : List UInt8) : ∀ (l : List UInt8) (acc u : Nat), parseUintM M acc l = .ok u → parseUintM M acc (l ++ r) = parseUintM M u r
  | [], acc, u, h => by
    simp only [parseUintM] at h
    injection h with h
    subst h; rfl
  | c :: l, acc, u, h => by
    simp only [parseUintM] at h
    simp only [List.cons_append, parseUintM]
    split at h
    · rename_i h1
      rw [if_pos h1]
      split at h
      · cases h
      · rename_i h2
        rw [if_neg h2]
        split at h
        · cases h
        · rename_i h3
          rw [if_neg h3]
          exact parseUintM_app M r l _ u h
    · cases h
theorem parseUintM_one (M acc d : Nat) (hd : d < 10) (h1 : acc < 1844674407370955162) (h2 : acc * 10 + d ≤ M) : parseUintM M acc [UInt8.ofNat (48 + d)] = .ok (acc * 10 + d) := by
  have e : (UInt8.ofNat (48 + d)).toNat = 48 + d := by rw [UInt8.toNat_ofNat', Nat.mod_eq_of_lt (by omega)]
  simp only [parseUintM, e]
  rw [if_pos (by omega), if_neg (by omega), if_neg (by omega)]
  congr 1; omega
theorem parseUintM_digits (u : Nat) : u ≤ 1000000000000 → parseUintM (2 ^ 64 - 1) 0 (decDigits u) = .ok u := by
  induction u using Nat.strongRecOn with
  | _ u ih =>
    intro hu
    by_cases h : u < 10
    · rw [decDigits_small h, parseUintM_one _ 0 u h (by decide) (by omega)]
      congr 1; omega
    · rw [decDigits_big h, parseUintM_app _ _ _ _ _ (ih (u / 10) (by omega) (by omega)), parseUintM_one _ _ _ (by omega) (by omega) (by omega)]
      congr 1; omega
theorem parse_itoa {n : Int} (h : -1000000000 ≤ n ∧ n ≤ 1000000000) : parseIntB 64 (itoa n) = .ok n := by
  have hu : parseUintB 64 (decDigits n.natAbs) = .ok n.natAbs := by
    obtain ⟨d, r, _, e⟩ := decDigits_head n.natAbs
    unfold parseUintB
    rw [if_neg (by rw [e]; simp)]
    exact parseUintM_digits _ (by omega)
  rw [itoa_abs]
  split
  · rw [parseIntB_minus, hu]
    show (if _ then _ else _) = _
    rw [if_neg (by omega)]
    congr 1; omega
  · obtain ⟨d, r, hd, e⟩ := decDigits_head n.natAbs
    have ed : (UInt8.ofNat (48 + d)).toNat = 48 + d := by rw [UInt8.toNat_ofNat', Nat.mod_eq_of_lt (by omega)]
    rw [e, parseIntB_plain 64 _ _ (by omega) (by omega), ← e, hu]
    show (if _ then _ else _) = _
    rw [if_neg (by omega)]
    congr 1; omega
/-- A text that is that number's. -/
def IsDec (s : ByteArray) (n : Int) : Prop := (-1000000000 ≤ n ∧ n ≤ 1000000000) ∧ (⟨(itoa n).toArray⟩ : ByteArray) = s
instance (s : ByteArray) (n : Int) : Decidable (IsDec s n) := by unfold IsDec; exact inferInstance
def dsum (s : ByteArray) : Int := if s.size ≤ 11 then digs 0 s.data.toList else 0
/-- What the reference reads first. -/
def rdN (s : ByteArray) : Int := if 0 < s.size ∧ byteAt s 0 = 45 then -dsum s else dsum s
/-- The number of a text. -/
def rd (s : ByteArray) : Option Int := if IsDec s (rdN s) then some (rdN s) else none
theorem itoa_len11 {n : Int} (h : -1000000000 ≤ n ∧ n ≤ 1000000000) : (itoa n).length ≤ 11 := by
  rw [itoa_abs]
  have := nDigits_le 9 n.natAbs (by omega)
  split
  · simp [decDigits_length]; omega
  · rw [decDigits_length]; omega
theorem IsDec.rdN {s : ByteArray} {n : Int} (h : IsDec s n) : rdN s = n := by
  obtain ⟨hr, rfl⟩ := h
  have hl := itoa_len11 hr
  have hs : (⟨(itoa n).toArray⟩ : ByteArray).size = (itoa n).length := bsz _
  have hd : dsum ⟨(itoa n).toArray⟩ = n.natAbs := by
    unfold dsum
    rw [hs, if_pos hl]
    exact digs_itoa n
  unfold Go.Proofs.YtmkcahfhnehanaaDoor.rdN
  rw [hd, hs]
  by_cases hn : n < 0
  · have e : itoa n = 45 :: decDigits n.natAbs := by rw [itoa_abs, if_pos hn]
    rw [if_pos ⟨by rw [e]; simp, by rw [e]; rfl⟩]
    omega
  · obtain ⟨d, r, hd', e⟩ := decDigits_head n.natAbs
    have e2 : itoa n = UInt8.ofNat (48 + d) :: r := by rw [itoa_abs, if_neg hn, e]
    have ed : (UInt8.ofNat (48 + d)).toNat = 48 + d := by rw [UInt8.toNat_ofNat', Nat.mod_eq_of_lt (by omega)]
    rw [if_neg (fun h => by
      have h2 := h.2
      rw [e2] at h2
      have h3 : ((UInt8.ofNat (48 + d)).toNat : Int) = 45 := h2
      rw [ed] at h3; omega)]
    omega
theorem rd_of {s : ByteArray} {n : Int} (h : IsDec s n) : rd s = some n := by
  unfold rd
  rw [h.rdN, if_pos h]
theorem rd_none {s : ByteArray} (h : ∀ n, ¬ IsDec s n) : rd s = none := by
  unfold rd
  rw [if_neg (h _)]
theorem rd_not {s : ByteArray} {n : Int} (h : parseIntB 64 s.data.toList = .ok n) (h2 : ¬ IsDec s n) : rd s = none := by
  refine rd_none fun m hm => ?_
  have h3 := parse_itoa hm.1
  have h4 : s.data.toList = itoa m := by rw [← hm.2]
  rw [h4, h3] at h
  injection h with h
  subst h
  exact h2 hm
theorem rd_bad {s : ByteArray} (h : ∀ n, parseIntB 64 s.data.toList ≠ .ok n) : rd s = none := by
  refine rd_none fun m hm => ?_
  have h3 := parse_itoa hm.1
  have h4 : s.data.toList = itoa m := by rw [← hm.2]
  exact h m (by rw [h4, h3])
end Go.Proofs.YtmkcahfhnehanaaDoor
/- strconv.ParseInt at base 10, 64 bits: the library's contract, laid at this program; as a contract here. -/
namespace Go.Proofs.YtmkcahfhnehanaaDoor
open Go.Shelf Go.RowKit Go.Lib Go.Sort Go.Proofs Go.Eng
def lays174_ren : Go.Shelf.Ren := ⟨fun | 174 => 65 | 247 => 81 | 245 => 82 | 287 => 98 | 279 => 99 | 280 => 100 | 281 => 101 | 282 => 102 | 321 => 119 | 322 => 120 | 316 => 121 | 171 => 123 | 205 => 122 | 243 => 131 | 246 => 71 | 283 => 87 | 284 => 88 | 285 => 89 | 286 => 90 | 129 => 112 | 317 => 114 | 318 => 115 | 319 => 116 | 320 => 117 | 337 => 129 | 338 => 130 | n => n, fun | 9 => 9 | 3 => 3 | 2 => 2 | 75 => 103 | 85 => 110 | 4 => 4 | 167 => 139 | 5 => 5 | 53 => 85 | 175 => 140 | 46 => 108 | 168 => 142 | 37 => 22 | 0 => 0 | 210 => 163 | 21 => 21 | 127 => 115 | 145 => 177 | 143 => 175 | 171 => 125 | 173 => 128 | 212 => 156 | 51 => 136 | 20 => 20 | 213 => 157 | 232 => 181 | 233 => 182 | 80 => 106 | n => n, fun | 15 => 2 | 16 => 3 | 17 => 1 | 18 => 6 | 19 => 7 | n => n⟩
theorem lays174 : Go.Proofs.LaysC.n174 Tryd.prog lays174_ren := {
  mixed := by kernel_rfl
  f129 := Tryd.func112.trans (congrArg some (by kernel_rfl))
  f171 := Tryd.func123.trans (congrArg some (by kernel_rfl))
  f174 := Tryd.func65.trans (congrArg some (by kernel_rfl))
  f205 := Tryd.func122.trans (congrArg some (by kernel_rfl))
  f243 := Tryd.func131.trans (congrArg some (by kernel_rfl))
  f245 := Tryd.func82.trans (congrArg some (by kernel_rfl))
  f246 := Tryd.func71.trans (congrArg some (by kernel_rfl))
  f247 := Tryd.func81.trans (congrArg some (by kernel_rfl))
  f279 := Tryd.func99.trans (congrArg some (by kernel_rfl))
  f280 := Tryd.func100.trans (congrArg some (by kernel_rfl))
  f281 := Tryd.func101.trans (congrArg some (by kernel_rfl))
  f282 := Tryd.func102.trans (congrArg some (by kernel_rfl))
  f283 := Tryd.func87.trans (congrArg some (by kernel_rfl))
  f284 := Tryd.func88.trans (congrArg some (by kernel_rfl))
  f285 := Tryd.func89.trans (congrArg some (by kernel_rfl))
  f286 := Tryd.func90.trans (congrArg some (by kernel_rfl))
  f287 := Tryd.func98.trans (congrArg some (by kernel_rfl))
  f316 := Tryd.func121.trans (congrArg some (by kernel_rfl))
  f317 := Tryd.func114.trans (congrArg some (by kernel_rfl))
  f318 := Tryd.func115.trans (congrArg some (by kernel_rfl))
  f319 := Tryd.func116.trans (congrArg some (by kernel_rfl))
  f320 := Tryd.func117.trans (congrArg some (by kernel_rfl))
  f321 := Tryd.func119.trans (congrArg some (by kernel_rfl))
  f322 := Tryd.func120.trans (congrArg some (by kernel_rfl))
  f337 := Tryd.func129.trans (congrArg some (by kernel_rfl))
  f338 := Tryd.func130.trans (congrArg some (by kernel_rfl))
  t0 := Tryd.underlying0
  a0 := Tryd.isAgg0
  z0 := Tryd.sizeOf0
  v0 := Tryd.zeroValue0
  t2 := Tryd.underlying2
  a2 := Tryd.isAgg2
  z2 := Tryd.sizeOf2
  v2 := Tryd.zeroValue2
  t3 := Tryd.underlying3
  a3 := Tryd.isAgg3
  z3 := Tryd.sizeOf3
  v3 := Tryd.zeroValue3
  t4 := Tryd.underlying4
  a4 := Tryd.isAgg4
  z4 := Tryd.sizeOf4
  v4 := Tryd.zeroValue4
  t5 := Tryd.underlying5
  a5 := Tryd.isAgg5
  z5 := Tryd.sizeOf5
  v5 := Tryd.zeroValue5
  t9 := Tryd.underlying9
  a9 := Tryd.isAgg9
  z9 := Tryd.sizeOf9
  v9 := Tryd.zeroValue9
  t20 := Tryd.underlying20
  a20 := Tryd.isAgg20
  z20 := Tryd.sizeOf20
  v20 := Tryd.zeroValue20
  t21 := Tryd.underlying21
  a21 := Tryd.isAgg21
  z21 := Tryd.sizeOf21
  v21 := Tryd.zeroValue21
  t37 := Tryd.underlying22
  a37 := Tryd.isAgg22
  z37 := Tryd.sizeOf22
  v37 := Tryd.zeroValue22
  t46 := Tryd.underlying108
  a46 := Tryd.isAgg108
  z46 := Tryd.sizeOf108
  v46 := Tryd.zeroValue108
  t51 := Tryd.underlying136
  a51 := Tryd.isAgg136
  z51 := Tryd.sizeOf136
  v51 := Tryd.zeroValue136
  t53 := Tryd.underlying85
  a53 := Tryd.isAgg85
  z53 := Tryd.sizeOf85
  v53 := Tryd.zeroValue85
  t75 := Tryd.underlying103
  a75 := Tryd.isAgg103
  z75 := Tryd.sizeOf103
  v75 := Tryd.zeroValue103
  t85 := Tryd.underlying110
  a85 := Tryd.isAgg110
  z85 := Tryd.sizeOf110
  v85 := Tryd.zeroValue110
  t127 := Tryd.underlying115
  a127 := Tryd.isAgg115
  z127 := Tryd.sizeOf115
  v127 := Tryd.zeroValue115
  t143 := Tryd.underlying175
  a143 := Tryd.isAgg175
  z143 := Tryd.sizeOf175
  v143 := Tryd.zeroValue175
  t145 := Tryd.underlying177
  a145 := Tryd.isAgg177
  z145 := Tryd.sizeOf177
  v145 := Tryd.zeroValue177
  t167 := Tryd.underlying139
  a167 := Tryd.isAgg139
  z167 := Tryd.sizeOf139
  v167 := Tryd.zeroValue139
  t168 := Tryd.underlying142
  a168 := Tryd.isAgg142
  z168 := Tryd.sizeOf142
  v168 := Tryd.zeroValue142
  t171 := Tryd.underlying125
  a171 := Tryd.isAgg125
  z171 := Tryd.sizeOf125
  v171 := Tryd.zeroValue125
  t173 := Tryd.underlying128
  a173 := Tryd.isAgg128
  z173 := Tryd.sizeOf128
  v173 := Tryd.zeroValue128
  t175 := Tryd.underlying140
  a175 := Tryd.isAgg140
  z175 := Tryd.sizeOf140
  v175 := Tryd.zeroValue140
  t210 := Tryd.underlying163
  a210 := Tryd.isAgg163
  z210 := Tryd.sizeOf163
  v210 := Tryd.zeroValue163
  t212 := Tryd.underlying156
  a212 := Tryd.isAgg156
  z212 := Tryd.sizeOf156
  v212 := Tryd.zeroValue156
  t213 := Tryd.underlying157
  a213 := Tryd.isAgg157
  z213 := Tryd.sizeOf157
  t232 := Tryd.underlying181
  a232 := Tryd.isAgg181
  z232 := Tryd.sizeOf181
  v232 := Tryd.zeroValue181
  t233 := Tryd.underlying182
  a233 := Tryd.isAgg182
  z233 := Tryd.sizeOf182
  v233 := Tryd.zeroValue182
  g15 := by kernel_rfl
  g16 := by kernel_rfl
  g17 := by kernel_rfl
  g18 := by kernel_rfl
  g19 := by kernel_rfl
  t80 := Tryd.underlying106
  a80 := Tryd.isAgg106
  z80 := Tryd.sizeOf106
  v80 := Tryd.zeroValue106
  i0 := by kernel_rfl
  i2 := by kernel_rfl
  i3 := by kernel_rfl
  i4 := by kernel_rfl
  i5 := by kernel_rfl
  i9 := by kernel_rfl
  i20 := by kernel_rfl
  i21 := by kernel_rfl
  i37 := by kernel_rfl
  i46 := by kernel_rfl
  i51 := by kernel_rfl
  i53 := by kernel_rfl
  i75 := by kernel_rfl
  i80 := by kernel_rfl
  i85 := by kernel_rfl
  i127 := by kernel_rfl
  i143 := by kernel_rfl
  i145 := by kernel_rfl
  i167 := by kernel_rfl
  i168 := by kernel_rfl
  i171 := by kernel_rfl
  i173 := by kernel_rfl
  i175 := by kernel_rfl
  i210 := by kernel_rfl
  i212 := by kernel_rfl
  i232 := by kernel_rfl
  i233 := by kernel_rfl
  m15 := by kernel_rfl
  m16 := by kernel_rfl
  m17 := by kernel_rfl
  m18 := by kernel_rfl
  m19 := by kernel_rfl
  c0 := by kernel_rfl
  c2 := by kernel_rfl
  c3 := by kernel_rfl
  c4 := by kernel_rfl
  c5 := by kernel_rfl
  c9 := by kernel_rfl
  c20 := by kernel_rfl
  c21 := by kernel_rfl
  c37 := by kernel_rfl
  c46 := by kernel_rfl
  c51 := by kernel_rfl
  c53 := by kernel_rfl
  c75 := by kernel_rfl
  c80 := by kernel_rfl
  c85 := by kernel_rfl
  c127 := by kernel_rfl
  c143 := by kernel_rfl
  c145 := by kernel_rfl
  c167 := by kernel_rfl
  c168 := by kernel_rfl
  c171 := by kernel_rfl
  c173 := by kernel_rfl
  c175 := by kernel_rfl
  c210 := by kernel_rfl
  c212 := by kernel_rfl
  c213 := by kernel_rfl
  c232 := by kernel_rfl
  c233 := by kernel_rfl }
theorem parse55_ok_ac (s : ByteArray) (hs : s.size ≤ 1048576) (v : Int) (h : parseIntB 64 s.data.toList = .ok v) (H : List ABox) :
    AC Tryd.prog 65 [.v (.string (s)), .v (.int .i64 (10)), .v (.int .i64 (64))] H (fun r H' => r = .tup [.v (.int .i64 (v)), .v .nilIface] ∧ H' = H) := by
  refine AC.lib1 ⟨_, Tryd.func65, by decide, by decide⟩ fun c vs w hv hh => ?_
  obtain ⟨x, y, z, rfl, hx, hy, hz⟩ := hv.args3
  have ex := hx.v_inv; have ey := hy.v_inv; have ez := hz.v_inv; subst ex; subst ey; subst ez
  refine (Any.strconv_ParseInt_10_at64_ok lays174 s (by omega) v h w).mono ?_
  rintro e w' ⟨rfl, hw⟩
  refine ⟨_, rfl, .tup (vs := [.int .i64 v, .nilIface]) rfl (fun i hi => by
    match i, hi with
    | 0, _ => exact .v _
    | 1, _ => exact .v _), ?_⟩
  rcases hw with hw | ⟨t, rfl⟩
  · rw [hw]; exact .refl _ _
  · exact bytesWorld_below _ _ _
theorem g15 : lays174_ren.g 15 = 2 := by kernel_rfl
theorem g16 : lays174_ren.g 16 = 3 := by kernel_rfl
theorem cell_of {w : World} {g : Nat} {ev : Value} {T : TypeId} {fr : Nat × Nat} (h : w.heap[g]? = some (.cells #[ev] T fr)) : w.cell? ⟨g, 0, none⟩ = some ev := by
  simp [World.cell?, h]
theorem parse55_bad_ac (s : ByteArray) (hs : s.size ≤ 1048576) (h : ∀ v, parseIntB 64 s.data.toList ≠ .ok v) {H : List ABox} {k1 k2 : Nat} {t1 t2 T1 T2 : TypeId} {p1 p2 : Value} {fr1 fr2 : Nat × Nat}
    (hk1 : H[k1]? = some (.tab 2 (.cells #[.iface t1 p1] T1 fr1))) (hk2 : H[k2]? = some (.tab 3 (.cells #[.iface t2 p2] T2 fr2))) :
    AC Tryd.prog 65 [.v (.string (s)), .v (.int .i64 (10)), .v (.int .i64 (64))] H (fun r H' => ∃ x : Int × TypeId × Value, True ∧ r = .tup [.v (.int .i64 (x.1)), .v (.iface x.2.1 x.2.2)] ∧ H' = H) := by
  refine AC.lib ⟨_, Tryd.func65, by decide, by decide⟩ fun c vs w hv hh => ?_
  obtain ⟨x, y, z, rfl, hx, hy, hz⟩ := hv.args3
  have ex := hx.v_inv; have ey := hy.v_inv; have ez := hz.v_inv; subst ex; subst ey; subst ez
  cases hp : parseIntB 64 s.data.toList with
  | ok v => exact absurd hp (h v)
  | range =>
    refine (Any.strconv_ParseInt_10_at64_range lays174 s (by omega) hp (.iface t2 p2) w (by rw [g16]; exact cell_of (hh.tab hk2)) (.inr ⟨_, _, rfl⟩)).mono ?_
    rintro e w' ⟨N, rfl, _, _, hb⟩
    exact ⟨(intSat 64 s.data.toList, lays174_ren.t 168, .pointer (some ⟨N, 0, none⟩)), _, trivial, rfl, .tup (vs := [_, _]) rfl (fun i hi => by
      match i, hi with
      | 0, _ => exact .v _
      | 1, _ => exact .v _), hb⟩
  | _ =>
    refine (Any.strconv_ParseInt_10_at64_syntax lays174 s (by omega) hp (.iface t1 p1) w (by rw [g15]; exact cell_of (hh.tab hk1)) (.inr ⟨_, _, rfl⟩)).mono ?_
    rintro e w' ⟨N, rfl, _, _, hb⟩
    exact ⟨(0, lays174_ren.t 168, .pointer (some ⟨N, 0, none⟩)), _, trivial, rfl, .tup (vs := [_, _]) rfl (fun i hi => by
      match i, hi with
      | 0, _ => exact .v _
      | 1, _ => exact .v _), hb⟩
end Go.Proofs.YtmkcahfhnehanaaDoor
/- Walks: a decimal read. -/
namespace Go.Proofs.YtmkcahfhnehanaaDoor
open Go.Lib Go.Eng
theorem data_len (s : ByteArray) : s.data.toList.length = s.size := Array.length_toList
end Go.Proofs.YtmkcahfhnehanaaDoor
/- Walks: a decimal read by the library; the law. -/
namespace Go.Proofs.YtmkcahfhnehanaaDoor
open Go.Lib Go.Eng
/-- The package variables that reading a decimal looks at. -/
def HasVars (H : List ABox) : Prop := (∃ (k : Nat) (T : TypeId) (fr : Nat × Nat), H[k]? = some (ABox.tab 1 (.cells powCells T fr))) ∧ (∃ (k : Nat) (t : TypeId) (p : Value) (T : TypeId) (fr : Nat × Nat), H[k]? = some (ABox.tab 2 (.cells #[.iface t p] T fr))) ∧ (∃ (k : Nat) (t : TypeId) (p : Value) (T : TypeId) (fr : Nat × Nat), H[k]? = some (ABox.tab 3 (.cells #[.iface t p] T fr)))
theorem HasVars.app {H : List ABox} (h : HasVars H) (l : List ABox) : HasVars (H ++ l) := by
  obtain ⟨⟨k, T, fr, h1⟩, ⟨k2, t2, p2, T2, fr2, h2⟩, ⟨k3, t3, p3, T3, fr3, h3⟩⟩ := h
  exact ⟨⟨k, T, fr, getT h1⟩, ⟨k2, t2, p2, T2, fr2, getT h2⟩, ⟨k3, t3, p3, T3, fr3, getT h3⟩⟩
theorem read16_ac (s : ByteArray) (hs : s.size ≤ 1048576) {H : List ABox} (hv : HasVars H) : AC Tryd.prog 52 [.v (.string (s))] H (fun r H' => r = .tup [.v (.int .i64 ((rd s).getD 0)), .v (.bool ((rd s).isSome))] ∧ H' = H) := by
  obtain ⟨⟨k, T, fr, h1⟩, ⟨k2, t2, p2, T2, fr2, h2⟩, ⟨k3, t3, p3, T3, fr3, h3⟩⟩ := hv
  by_cases hp : ∃ v, parseIntB 64 s.data.toList = .ok v
  · obtain ⟨v, hp⟩ := hp
    have hrg : -9223372036854775808 ≤ v ∧ v ≤ 9223372036854775807 := by
      have h := parseIntB_bounds hp
      have e : ((2 ^ (64 - 1) : Nat) : Int) = 9223372036854775808 := by decide
      rw [e] at h; omega
    by_cases hd1 : -1000000000 ≤ v ∧ v ≤ 1000000000
    · have e1 : decide (-1000000000 ≤ v ∧ v ≤ 1000000000) = true := decide_eq_true hd1
      by_cases hd2 : (⟨(itoa v).toArray⟩ : ByteArray) = s
      · rw [rd_of ⟨hd1, hd2⟩]
        refine AC.enter envOk Tryd.func52 rfl (by decide) Tryd.ntmps52 Tryd.results52 (by simp) fun hB => ?_
        repeat' (first | (with_reducible first | refine AW.sreg envOk fun K hK => ?_ | refine AW.region envOk fun K hK => ?_ | refine vcL_nil ?_) | (with_reducible (first | refine vcL_cons fun K' hK' => ?_); simp only [isC, Bool.false_or, Bool.or_true, ↓reduceDIte, List.take_length, Nat.le_refl, List.drop_zero, vGuard, undef, Bool.not_eq_eq_eq_not, dstOk, vcOp, vcF, isPure, putS, vcCall, St.ev, St.put, lk, AVal.ofVal, initS, Nat.reduceLT, true_and, and_true, vBin, vUn, vPick, vPart, vLoad, vExt, AVal.flat, AVal.cell, cellsOk, setRange, ETy.enc, ETy.dec, ETy.sz, ETy.d, cond, Nat.reduceBEq, Nat.reduceAdd, Int.toNat_natCast, List.length_set, List.length_append, List.length_replicate, List.length_take, Nat.reduceSub, Nat.reduceEqDiff, get_loc, setBox_loc, next_eq, List.length_cons, List.length_nil, List.map_cons, List.map_nil, List.append_nil, List.nil_append, List.cons_append, List.set_cons_zero, List.set_cons_succ, getD_zero, getD_succ, List.getElem?_cons_succ, List.getElem?_cons_zero, List.take_succ_cons, List.take_zero, List.drop_succ_cons, List.all_cons, List.all_nil, Bool.and_true, Bool.true_and, Option.bind_some, Option.map_some, Option.map_none, decide_eq_true_eq, decide_eq_false_iff_not, ne_eq, Bool.not_eq_true, Bool.not_eq_false, Decidable.not_not, not_true_eq_false, not_false_eq_true, forall_const, false_implies, Bool.true_eq_false, Bool.false_eq_true, reduceCtorEq, decide_true, decide_false, Bool.not_true, Bool.not_false, if_true, if_false, Nat.zero_add, Nat.lt_irrefl, Value.oneCell', gt_iff_lt, Nat.reduceLeDiff, Nat.lt_add_one, vvar_2, vzero_2, vknd_2, vsn_2, vvar_4, vzero_4, vknd_4, vsn_4, vvar_9, vzero_9, vknd_9, vsn_9, vifc_103, e1, hd2]; try simp (disch := omega) only [wrap64]) | (with_reducible refine hK' _ ?_; clear hK' K') | (with_reducible refine hK _ ?_; clear hK K) | ((with_reducible show vCall _ (AVal.fn 65 _) _ _ _); refine vCall_pure (parse55_ok_ac s hs v hp _) ?_) | ((with_reducible show vCall _ (AVal.fn 33 _) _ _ _); refine vCall_pure (in51_ac _ _ _ _) ?_) | ((with_reducible show vCall _ (AVal.fn 45 _) _ _ _); refine vCall_pure (dec14_ac _ hrg T fr (getT h1)) ?_) | (with_reducible first | refine And.intro (And.intro rfl rfl) ?_ | refine And.intro (by omega) ?_) | (with_reducible refine And.intro (fun hg => ?_) (fun hg => ?_) <;> first | simp only [eq_false hg, rsB] | simp only [eq_true hg, rsB] | simp only [hg, rsB]) | (with_reducible first | refine And.intro rfl (And.intro rfl rfl) | refine thenQ_n ?_ | refine thenQ_exit ?_ | refine thenQ_ret ?_ | refine midQ_ret ?_ | refine midQ_exit ?_ | refine blockQ_same ?_ | refine blockQ_ne (by decide) ?_ | refine blockQ_ret ?_ | refine blockQ_n ?_ | refine AW.exit ?_ | refine AW.block ?_ | refine AW.cond_t rfl ?_ | refine AW.cond_f rfl ?_ | refine AW.cond_dec rfl (fun hc => ?_) (fun hc => ?_)) | (with_reducible refine AW.cond rfl (fun hc => ?_) (fun hc => ?_) <;> try simp only [Bool.not_eq_eq_eq_not, Bool.not_true, Bool.not_false, decide_eq_true_eq, decide_eq_false_iff_not] at hc) | (with_reducible first | refine AW.seq ?_ | refine AW.skip ?_ | refine AW.ret ?_ | refine And.intro ?_ ?_) | (with_reducible intro hg; first | simp only [eq_false hg, rsB] | simp only [eq_true hg, rsB]) | (with_reducible refine retQ_drop ?_; simp only [vRes, packRes, vLoad, vPart, lk, cond, Nat.reduceBEq, get_loc, getD_zero, getD_succ, true_and, List.length_cons, List.length_nil, Nat.reduceAdd, Nat.reduceLT, Nat.reduceLeDiff, List.take_succ_cons, List.take_zero, List.drop_succ_cons, List.drop_zero, vvar_2, vzero_2, vknd_2, vsn_2, vvar_4, vzero_4, vknd_4, vsn_4, vvar_9, vzero_9, vknd_9, vsn_9, vifc_103]) )
        all_goals first
          | exact ⟨_, _, FinOk.drop hB (Pl.ids (by (repeat' (first | exact Pl.v _ | exact Pl.junk | exact Pl.rd rfl _ | exact pl_nil | refine pl_cons ?_ ?_ | refine Pl.agg ?_ | refine Pl.tup ?_ | refine Pl.rp ?_ | refine Pl.fn ?_)); (first | done | fail))), rfl, rfl⟩
          | fail
      · rw [rd_not hp (fun h => hd2 h.2)]
        have hd3 := eq_false hd2
        refine AC.enter envOk Tryd.func52 rfl (by decide) Tryd.ntmps52 Tryd.results52 (by simp) fun hB => ?_
        repeat' (first | (with_reducible first | refine AW.sreg envOk fun K hK => ?_ | refine AW.region envOk fun K hK => ?_ | refine vcL_nil ?_) | (with_reducible (first | refine vcL_cons fun K' hK' => ?_); simp only [isC, Bool.false_or, Bool.or_true, ↓reduceDIte, List.take_length, Nat.le_refl, List.drop_zero, vGuard, undef, Bool.not_eq_eq_eq_not, dstOk, vcOp, vcF, isPure, putS, vcCall, St.ev, St.put, lk, AVal.ofVal, initS, Nat.reduceLT, true_and, and_true, vBin, vUn, vPick, vPart, vLoad, vExt, AVal.flat, AVal.cell, cellsOk, setRange, ETy.enc, ETy.dec, ETy.sz, ETy.d, cond, Nat.reduceBEq, Nat.reduceAdd, Int.toNat_natCast, List.length_set, List.length_append, List.length_replicate, List.length_take, Nat.reduceSub, Nat.reduceEqDiff, get_loc, setBox_loc, next_eq, List.length_cons, List.length_nil, List.map_cons, List.map_nil, List.append_nil, List.nil_append, List.cons_append, List.set_cons_zero, List.set_cons_succ, getD_zero, getD_succ, List.getElem?_cons_succ, List.getElem?_cons_zero, List.take_succ_cons, List.take_zero, List.drop_succ_cons, List.all_cons, List.all_nil, Bool.and_true, Bool.true_and, Option.bind_some, Option.map_some, Option.map_none, decide_eq_true_eq, decide_eq_false_iff_not, ne_eq, Bool.not_eq_true, Bool.not_eq_false, Decidable.not_not, not_true_eq_false, not_false_eq_true, forall_const, false_implies, Bool.true_eq_false, Bool.false_eq_true, reduceCtorEq, decide_true, decide_false, Bool.not_true, Bool.not_false, if_true, if_false, Nat.zero_add, Nat.lt_irrefl, Value.oneCell', gt_iff_lt, Nat.reduceLeDiff, Nat.lt_add_one, vvar_2, vzero_2, vknd_2, vsn_2, vvar_4, vzero_4, vknd_4, vsn_4, vvar_9, vzero_9, vknd_9, vsn_9, vifc_103, e1, hd3]; try simp (disch := omega) only [wrap64]) | (with_reducible refine hK' _ ?_; clear hK' K') | (with_reducible refine hK _ ?_; clear hK K) | ((with_reducible show vCall _ (AVal.fn 65 _) _ _ _); refine vCall_pure (parse55_ok_ac s hs v hp _) ?_) | ((with_reducible show vCall _ (AVal.fn 33 _) _ _ _); refine vCall_pure (in51_ac _ _ _ _) ?_) | ((with_reducible show vCall _ (AVal.fn 45 _) _ _ _); refine vCall_pure (dec14_ac _ hrg T fr (getT h1)) ?_) | (with_reducible first | refine And.intro (And.intro rfl rfl) ?_ | refine And.intro (by omega) ?_) | (with_reducible refine And.intro (fun hg => ?_) (fun hg => ?_) <;> first | simp only [eq_false hg, rsB] | simp only [eq_true hg, rsB] | simp only [hg, rsB]) | (with_reducible first | refine And.intro rfl (And.intro rfl rfl) | refine thenQ_n ?_ | refine thenQ_exit ?_ | refine thenQ_ret ?_ | refine midQ_ret ?_ | refine midQ_exit ?_ | refine blockQ_same ?_ | refine blockQ_ne (by decide) ?_ | refine blockQ_ret ?_ | refine blockQ_n ?_ | refine AW.exit ?_ | refine AW.block ?_ | refine AW.cond_t rfl ?_ | refine AW.cond_f rfl ?_ | refine AW.cond_dec rfl (fun hc => ?_) (fun hc => ?_)) | (with_reducible refine AW.cond rfl (fun hc => ?_) (fun hc => ?_) <;> try simp only [Bool.not_eq_eq_eq_not, Bool.not_true, Bool.not_false, decide_eq_true_eq, decide_eq_false_iff_not] at hc) | (with_reducible first | refine AW.seq ?_ | refine AW.skip ?_ | refine AW.ret ?_ | refine And.intro ?_ ?_) | (with_reducible intro hg; first | simp only [eq_false hg, rsB] | simp only [eq_true hg, rsB]) | (with_reducible refine retQ_drop ?_; simp only [vRes, packRes, vLoad, vPart, lk, cond, Nat.reduceBEq, get_loc, getD_zero, getD_succ, true_and, List.length_cons, List.length_nil, Nat.reduceAdd, Nat.reduceLT, Nat.reduceLeDiff, List.take_succ_cons, List.take_zero, List.drop_succ_cons, List.drop_zero, vvar_2, vzero_2, vknd_2, vsn_2, vvar_4, vzero_4, vknd_4, vsn_4, vvar_9, vzero_9, vknd_9, vsn_9, vifc_103]) )
        all_goals first
          | exact ⟨_, _, FinOk.drop hB (Pl.ids (by (repeat' (first | exact Pl.v _ | exact Pl.junk | exact Pl.rd rfl _ | exact pl_nil | refine pl_cons ?_ ?_ | refine Pl.agg ?_ | refine Pl.tup ?_ | refine Pl.rp ?_ | refine Pl.fn ?_)); (first | done | fail))), rfl, rfl⟩
          | fail
    · have e1 : decide (-1000000000 ≤ v ∧ v ≤ 1000000000) = false := decide_eq_false hd1
      rw [rd_not hp (fun h => hd1 h.1)]
      refine AC.enter envOk Tryd.func52 rfl (by decide) Tryd.ntmps52 Tryd.results52 (by simp) fun hB => ?_
      repeat' (first | (with_reducible first | refine AW.sreg envOk fun K hK => ?_ | refine AW.region envOk fun K hK => ?_ | refine vcL_nil ?_) | (with_reducible (first | refine vcL_cons fun K' hK' => ?_); simp only [isC, Bool.false_or, Bool.or_true, ↓reduceDIte, List.take_length, Nat.le_refl, List.drop_zero, vGuard, undef, Bool.not_eq_eq_eq_not, dstOk, vcOp, vcF, isPure, putS, vcCall, St.ev, St.put, lk, AVal.ofVal, initS, Nat.reduceLT, true_and, and_true, vBin, vUn, vPick, vPart, vLoad, vExt, AVal.flat, AVal.cell, cellsOk, setRange, ETy.enc, ETy.dec, ETy.sz, ETy.d, cond, Nat.reduceBEq, Nat.reduceAdd, Int.toNat_natCast, List.length_set, List.length_append, List.length_replicate, List.length_take, Nat.reduceSub, Nat.reduceEqDiff, get_loc, setBox_loc, next_eq, List.length_cons, List.length_nil, List.map_cons, List.map_nil, List.append_nil, List.nil_append, List.cons_append, List.set_cons_zero, List.set_cons_succ, getD_zero, getD_succ, List.getElem?_cons_succ, List.getElem?_cons_zero, List.take_succ_cons, List.take_zero, List.drop_succ_cons, List.all_cons, List.all_nil, Bool.and_true, Bool.true_and, Option.bind_some, Option.map_some, Option.map_none, decide_eq_true_eq, decide_eq_false_iff_not, ne_eq, Bool.not_eq_true, Bool.not_eq_false, Decidable.not_not, not_true_eq_false, not_false_eq_true, forall_const, false_implies, Bool.true_eq_false, Bool.false_eq_true, reduceCtorEq, decide_true, decide_false, Bool.not_true, Bool.not_false, if_true, if_false, Nat.zero_add, Nat.lt_irrefl, Value.oneCell', gt_iff_lt, Nat.reduceLeDiff, Nat.lt_add_one, vvar_2, vzero_2, vknd_2, vsn_2, vvar_4, vzero_4, vknd_4, vsn_4, vvar_9, vzero_9, vknd_9, vsn_9, vifc_103, e1]; try simp (disch := omega) only [wrap64]) | (with_reducible refine hK' _ ?_; clear hK' K') | (with_reducible refine hK _ ?_; clear hK K) | ((with_reducible show vCall _ (AVal.fn 65 _) _ _ _); refine vCall_pure (parse55_ok_ac s hs v hp _) ?_) | ((with_reducible show vCall _ (AVal.fn 33 _) _ _ _); refine vCall_pure (in51_ac _ _ _ _) ?_) | ((with_reducible show vCall _ (AVal.fn 45 _) _ _ _); refine vCall_pure (dec14_ac _ hrg T fr (getT h1)) ?_) | (with_reducible first | refine And.intro (And.intro rfl rfl) ?_ | refine And.intro (by omega) ?_) | (with_reducible refine And.intro (fun hg => ?_) (fun hg => ?_) <;> first | simp only [eq_false hg, rsB] | simp only [eq_true hg, rsB] | simp only [hg, rsB]) | (with_reducible first | refine And.intro rfl (And.intro rfl rfl) | refine thenQ_n ?_ | refine thenQ_exit ?_ | refine thenQ_ret ?_ | refine midQ_ret ?_ | refine midQ_exit ?_ | refine blockQ_same ?_ | refine blockQ_ne (by decide) ?_ | refine blockQ_ret ?_ | refine blockQ_n ?_ | refine AW.exit ?_ | refine AW.block ?_ | refine AW.cond_t rfl ?_ | refine AW.cond_f rfl ?_ | refine AW.cond_dec rfl (fun hc => ?_) (fun hc => ?_)) | (with_reducible refine AW.cond rfl (fun hc => ?_) (fun hc => ?_) <;> try simp only [Bool.not_eq_eq_eq_not, Bool.not_true, Bool.not_false, decide_eq_true_eq, decide_eq_false_iff_not] at hc) | (with_reducible first | refine AW.seq ?_ | refine AW.skip ?_ | refine AW.ret ?_ | refine And.intro ?_ ?_) | (with_reducible intro hg; first | simp only [eq_false hg, rsB] | simp only [eq_true hg, rsB]) | (with_reducible refine retQ_drop ?_; simp only [vRes, packRes, vLoad, vPart, lk, cond, Nat.reduceBEq, get_loc, getD_zero, getD_succ, true_and, List.length_cons, List.length_nil, Nat.reduceAdd, Nat.reduceLT, Nat.reduceLeDiff, List.take_succ_cons, List.take_zero, List.drop_succ_cons, List.drop_zero, vvar_2, vzero_2, vknd_2, vsn_2, vvar_4, vzero_4, vknd_4, vsn_4, vvar_9, vzero_9, vknd_9, vsn_9, vifc_103]) )
      all_goals first
        | exact ⟨_, _, FinOk.drop hB (Pl.ids (by (repeat' (first | exact Pl.v _ | exact Pl.junk | exact Pl.rd rfl _ | exact pl_nil | refine pl_cons ?_ ?_ | refine Pl.agg ?_ | refine Pl.tup ?_ | refine Pl.rp ?_ | refine Pl.fn ?_)); (first | done | fail))), rfl, rfl⟩
        | fail
  · rw [rd_bad (fun v h => hp ⟨v, h⟩)]
    refine AC.enter envOk Tryd.func52 rfl (by decide) Tryd.ntmps52 Tryd.results52 (by simp) fun hB => ?_
    repeat' (first | (with_reducible first | refine AW.sreg envOk fun K hK => ?_ | refine AW.region envOk fun K hK => ?_ | refine vcL_nil ?_) | (with_reducible (first | refine vcL_cons fun K' hK' => ?_); simp only [isC, Bool.false_or, Bool.or_true, ↓reduceDIte, List.take_length, Nat.le_refl, List.drop_zero, vGuard, undef, Bool.not_eq_eq_eq_not, dstOk, vcOp, vcF, isPure, putS, vcCall, St.ev, St.put, lk, AVal.ofVal, initS, Nat.reduceLT, true_and, and_true, vBin, vUn, vPick, vPart, vLoad, vExt, AVal.flat, AVal.cell, cellsOk, setRange, ETy.enc, ETy.dec, ETy.sz, ETy.d, cond, Nat.reduceBEq, Nat.reduceAdd, Int.toNat_natCast, List.length_set, List.length_append, List.length_replicate, List.length_take, Nat.reduceSub, Nat.reduceEqDiff, get_loc, setBox_loc, next_eq, List.length_cons, List.length_nil, List.map_cons, List.map_nil, List.append_nil, List.nil_append, List.cons_append, List.set_cons_zero, List.set_cons_succ, getD_zero, getD_succ, List.getElem?_cons_succ, List.getElem?_cons_zero, List.take_succ_cons, List.take_zero, List.drop_succ_cons, List.all_cons, List.all_nil, Bool.and_true, Bool.true_and, Option.bind_some, Option.map_some, Option.map_none, decide_eq_true_eq, decide_eq_false_iff_not, ne_eq, Bool.not_eq_true, Bool.not_eq_false, Decidable.not_not, not_true_eq_false, not_false_eq_true, forall_const, false_implies, Bool.true_eq_false, Bool.false_eq_true, reduceCtorEq, decide_true, decide_false, Bool.not_true, Bool.not_false, if_true, if_false, Nat.zero_add, Nat.lt_irrefl, Value.oneCell', gt_iff_lt, Nat.reduceLeDiff, Nat.lt_add_one, vvar_2, vzero_2, vknd_2, vsn_2, vvar_4, vzero_4, vknd_4, vsn_4, vvar_9, vzero_9, vknd_9, vsn_9, vifc_103]; try simp (disch := omega) only [wrap64]) | (with_reducible refine hK' _ ?_; clear hK' K') | (with_reducible refine hK _ ?_; clear hK K) | ((with_reducible show vCall _ (AVal.fn 65 _) _ _ _); refine vCall_ex (parse55_bad_ac s hs (fun v h => hp ⟨v, h⟩) (getT h2) (getT h3)) (fun x hx => ?_)) | (with_reducible first | refine And.intro (And.intro rfl rfl) ?_ | refine And.intro (by omega) ?_) | (with_reducible refine And.intro (fun hg => ?_) (fun hg => ?_) <;> first | simp only [eq_false hg, rsB] | simp only [eq_true hg, rsB] | simp only [hg, rsB]) | (with_reducible first | refine And.intro rfl (And.intro rfl rfl) | refine thenQ_n ?_ | refine thenQ_exit ?_ | refine thenQ_ret ?_ | refine midQ_ret ?_ | refine midQ_exit ?_ | refine blockQ_same ?_ | refine blockQ_ne (by decide) ?_ | refine blockQ_ret ?_ | refine blockQ_n ?_ | refine AW.exit ?_ | refine AW.block ?_ | refine AW.cond_t rfl ?_ | refine AW.cond_f rfl ?_ | refine AW.cond_dec rfl (fun hc => ?_) (fun hc => ?_)) | (with_reducible refine AW.cond rfl (fun hc => ?_) (fun hc => ?_) <;> try simp only [Bool.not_eq_eq_eq_not, Bool.not_true, Bool.not_false, decide_eq_true_eq, decide_eq_false_iff_not] at hc) | (with_reducible first | refine AW.seq ?_ | refine AW.skip ?_ | refine AW.ret ?_ | refine And.intro ?_ ?_) | (with_reducible intro hg; first | simp only [eq_false hg, rsB] | simp only [eq_true hg, rsB]) | (with_reducible refine retQ_drop ?_; simp only [vRes, packRes, vLoad, vPart, lk, cond, Nat.reduceBEq, get_loc, getD_zero, getD_succ, true_and, List.length_cons, List.length_nil, Nat.reduceAdd, Nat.reduceLT, Nat.reduceLeDiff, List.take_succ_cons, List.take_zero, List.drop_succ_cons, List.drop_zero, vvar_2, vzero_2, vknd_2, vsn_2, vvar_4, vzero_4, vknd_4, vsn_4, vvar_9, vzero_9, vknd_9, vsn_9, vifc_103]) )
    all_goals first
      | exact ⟨_, _, FinOk.drop hB (Pl.ids (by (repeat' (first | exact Pl.v _ | exact Pl.junk | exact Pl.rd rfl _ | exact pl_nil | refine pl_cons ?_ ?_ | refine Pl.agg ?_ | refine Pl.tup ?_ | refine Pl.rp ?_ | refine Pl.fn ?_)); (first | done | fail))), rfl, rfl⟩
      | fail
end Go.Proofs.YtmkcahfhnehanaaDoor
/- The plain law of texts cut at a mark; lists read; no program in sight. -/
namespace Go.Proofs.YtmkcahfhnehanaaDoor
open Go.Lib Go.Eng
/-- Bytes set before the first part. -/
def glue (p : List UInt8) : List (List UInt8) → List (List UInt8)
  | [] => [p]
  | q :: qs => (p ++ q) :: qs
/-- The parts of a text between marks. -/
def pts (m : UInt8) : List UInt8 → List (List UInt8)
  | [] => [[]]
  | c :: l => if c = m then [] :: pts m l else glue [c] (pts m l)
def Free (m : UInt8) (p : List UInt8) : Prop := ∀ c ∈ p, c ≠ m
theorem pts_ne (m : UInt8) (l : List UInt8) : pts m l ≠ [] := by
  cases l with
  | nil => simp [pts]
  | cons c l =>
    unfold pts
    split
    · simp
    · cases pts m l <;> simp [glue]
theorem glue_glue (p q : List UInt8) {x : List (List UInt8)} (h : x ≠ []) : glue p (glue q x) = glue (p ++ q) x := by
  cases x with
  | nil => exact absurd rfl h
  | cons a r => simp [glue]
theorem glue_nil {x : List (List UInt8)} (h : x ≠ []) : glue [] x = x := by
  cases x with
  | nil => exact absurd rfl h
  | cons a r => simp [glue]
theorem pts_skip (m : UInt8) : ∀ (p l : List UInt8), Free m p → pts m (p ++ l) = glue p (pts m l)
  | [], l, _ => (glue_nil (pts_ne m l)).symm
  | c :: p, l, h => by
    have hc : c ≠ m := h c (List.mem_cons_self ..)
    have ih := pts_skip m p l (fun x hx => h x (List.mem_cons_of_mem _ hx))
    rw [List.cons_append]
    conv => lhs; unfold pts
    rw [if_neg hc, ih, glue_glue _ _ (pts_ne m l)]; rfl
theorem pts_free {m : UInt8} {p : List UInt8} (h : Free m p) : pts m p = [p] := by
  have := pts_skip m p [] h
  rw [List.append_nil] at this
  rw [this]; simp [pts, glue]
theorem pts_at {m : UInt8} {p l : List UInt8} (h : Free m p) : pts m (p ++ m :: l) = p :: pts m l := by
  rw [pts_skip m p _ h]
  simp [pts, glue]
theorem pts_len (m : UInt8) : ∀ (l : List UInt8), (pts m l).length ≤ l.length + 1
  | [] => by simp [pts]
  | c :: l => by
    have ih := pts_len m l
    unfold pts
    split
    · simp only [List.length_cons]; omega
    · cases e : pts m l with
      | nil => simp [glue]
      | cons a r => rw [e] at ih; simp only [glue, List.length_cons] at ih ⊢; omega
theorem pts_each (m : UInt8) : ∀ (l q : List UInt8), q ∈ pts m l → q.length ≤ l.length
  | [], q, h => by simp [pts] at h; subst h; simp
  | c :: l, q, h => by
    have ih := pts_each m l
    unfold pts at h
    split at h
    · rcases List.mem_cons.1 h with rfl | h
      · simp
      · have := ih q h; simp only [List.length_cons]; omega
    · cases e : pts m l with
      | nil => exact absurd e (pts_ne m l)
      | cons a r =>
        rw [e] at h ih
        simp only [glue] at h
        rcases List.mem_cons.1 h with rfl | h
        · have := ih a (List.mem_cons_self ..)
          simp; omega
        · have := ih q (List.mem_cons_of_mem _ h); simp only [List.length_cons]; omega
/-- Where a mark is first. -/
theorem idx1 (m : UInt8) : ∀ (l : List UInt8), (index l [m] = -1 ∧ Free m l) ∨ ∃ p r, l = p ++ m :: r ∧ Free m p ∧ index l [m] = (p.length : Int)
  | [] => .inl ⟨by simp [index], fun c h => by cases h⟩
  | b :: l => by
    by_cases hb : b = m
    · subst hb
      exact .inr ⟨[], l, rfl, (fun c h => by cases h), by rw [index]; simp [List.isPrefixOf]⟩
    · have hp : ([m] : List UInt8).isPrefixOf (b :: l) = false := by simp [List.isPrefixOf, Ne.symm hb]
      have hix : index (b :: l) [m] = if index l [m] == -1 then -1 else index l [m] + 1 := by rw [index, hp]; simp
      rcases idx1 m l with ⟨h1, h2⟩ | ⟨p, r, h1, h2, h3⟩
      · refine .inl ⟨by rw [hix, if_pos (by simp [h1])], fun c hc => ?_⟩
        rcases List.mem_cons.1 hc with rfl | hc
        · exact hb
        · exact h2 c hc
      · refine .inr ⟨b :: p, r, by rw [h1]; rfl, fun c hc => ?_, ?_⟩
        · rcases List.mem_cons.1 hc with rfl | hc
          · exact hb
          · exact h2 c hc
        · rw [hix, if_neg (by rw [h3, beq_iff_eq]; omega), h3]; simp
theorem cut_pts (m : UInt8) (l : List UInt8) : (Free m l ∧ cut l [m] = (l, [], false)) ∨ ∃ p r, l = p ++ m :: r ∧ Free m p ∧ cut l [m] = (p, r, true) := by
  rcases idx1 m l with ⟨h1, h2⟩ | ⟨p, r, h1, h2, h3⟩
  · refine .inl ⟨h2, ?_⟩
    unfold cut
    rw [if_neg (by omega)]
  · refine .inr ⟨p, r, h1, h2, ?_⟩
    unfold cut
    rw [if_pos (by omega), h3]
    subst h1
    simp
theorem splitK_pts (m : UInt8) : ∀ (k : Nat) (l : List UInt8), count l [m] = k → splitK [m] 0 k l = pts m l
  | 0, l, h => by
    rcases idx1 m l with ⟨h1, h2⟩ | ⟨p, r, h1, h2, h3⟩
    · rw [pts_free h2]; rfl
    · rw [count_hit (by simp) h3] at h; omega
  | k + 1, l, h => by
    rcases idx1 m l with ⟨h1, h2⟩ | ⟨p, r, h1, h2, h3⟩
    · rw [count_miss h1] at h; omega
    · have e : l.drop (p.length + ([m] : List UInt8).length) = r := by rw [h1]; simp
      have e2 : l.take (p.length + 0) = p := by rw [h1]; simp
      have hc := count_hit (s := l) (sub := [m]) (by simp) h3
      rw [e] at hc
      have ih := splitK_pts m k r (by omega)
      have ei : (index l [m]).toNat = p.length := by omega
      unfold splitK
      rw [if_neg (by rw [h3, beq_iff_eq]; omega), ei, e, e2, ih, h1, pts_at h2]
/-- The parts as texts. -/
def ptsS (m : UInt8) (s : ByteArray) : List ByteArray := (pts m s.data.toList).map fun l => ⟨l.toArray⟩
theorem ba_eta (s : ByteArray) : (⟨s.data.toList.toArray⟩ : ByteArray) = s := by
  apply ByteArray.ext; simp
theorem split_pts (m : UInt8) (s : ByteArray) : splitB ⟨#[m]⟩ 0 (countB s ⟨#[m]⟩) s = ptsS m s := by
  have h := splitB_data ⟨#[m]⟩ 0 (countB s ⟨#[m]⟩) s
  have hc : countB s ⟨#[m]⟩ = count s.data.toList [m] := rfl
  rw [show (⟨#[m]⟩ : ByteArray).data.toList = [m] from rfl, hc, splitK_pts m _ _ rfl] at h
  unfold ptsS
  rw [← h, List.map_map, hc]
  conv => lhs; rw [← List.map_id (splitB _ _ _ _)]
  refine List.map_congr_left fun b _ => ?_
  exact (ba_eta b).symm
/-! ### The reference's loop -/
/-- What the loop knows at i: the parts laid, and where the next one begins. -/
def CutAt (m : UInt8) (l : List UInt8) (i : Nat) (out : List (List UInt8)) (fr : Nat) : Prop := fr ≤ i ∧ i ≤ l.length ∧ Free m ((l.drop fr).take (i - fr)) ∧ pts m l = out ++ pts m (l.drop fr)
theorem CutAt.skip {m : UInt8} {l : List UInt8} {i fr : Nat} {out : List (List UInt8)} (h : CutAt m l i out fr) (hi : i < l.length) (hc : l[i] ≠ m) : CutAt m l (i + 1) out fr := by
  obtain ⟨h1, h2, h3, h4⟩ := h
  refine ⟨by omega, by omega, fun c hcm => ?_, h4⟩
  rw [show i + 1 - fr = (i - fr) + 1 by omega, List.take_add_one, List.getElem?_drop, show fr + (i - fr) = i by omega, List.getElem?_eq_getElem hi] at hcm
  rcases List.mem_append.1 hcm with hcm | hcm
  · exact h3 c hcm
  · simp at hcm; subst hcm; exact hc
theorem CutAt.at {m : UInt8} {l : List UInt8} {i fr : Nat} {out : List (List UInt8)} (h : CutAt m l i out fr) (hi : i < l.length) (hc : l[i] = m) : CutAt m l (i + 1) (out ++ [(l.drop fr).take (i - fr)]) (i + 1) := by
  obtain ⟨h1, h2, h3, h4⟩ := h
  refine ⟨Nat.le_refl _, by omega, fun c hcm => by simp at hcm, ?_⟩
  have e : l.drop fr = (l.drop fr).take (i - fr) ++ m :: l.drop (i + 1) := by
    conv => lhs; rw [← List.take_append_drop (i - fr) (l.drop fr)]
    rw [List.drop_drop, show fr + (i - fr) = i by omega, List.drop_eq_getElem_cons hi, hc]
  rw [h4, List.append_assoc]
  congr 1
  conv => lhs; rw [e]
  rw [pts_at h3]; rfl
theorem CutAt.done {m : UInt8} {l : List UInt8} {fr : Nat} {out : List (List UInt8)} (h : CutAt m l l.length out fr) : out ++ [(l.drop fr).take (l.length - fr)] = pts m l := by
  obtain ⟨h1, h2, h3, h4⟩ := h
  have e : (l.drop fr).take (l.length - fr) = l.drop fr := List.take_of_length_le (by simp)
  rw [e] at h3 ⊢
  rw [h4, pts_free h3]
theorem CutAt.len {m : UInt8} {l : List UInt8} {i fr : Nat} {out : List (List UInt8)} (h : CutAt m l i out fr) : out.length ≤ l.length + 1 := by
  have h1 := pts_len m l
  rw [h.2.2.2, List.length_append] at h1
  omega
/-! ### Lists -/
def noneS : ByteArray := ⟨#[110, 111, 110, 101]⟩
/-- The numbers of the first i parts; none where one is none. -/
def rdTo (ps : List ByteArray) : Nat → Option (List Int)
  | 0 => some []
  | i + 1 => match rdTo ps i with
    | none => none
    | some l => (rd (ps.getD i ByteArray.empty)).map fun n => l ++ [n]
theorem rdTo_len {ps : List ByteArray} : ∀ {i : Nat} {l : List Int}, rdTo ps i = some l → l.length = i
  | 0, l, h => by simp [rdTo] at h; subst h; rfl
  | i + 1, l, h => by
    unfold rdTo at h
    split at h
    · cases h
    · rename_i l' hl
      obtain ⟨n, _, rfl⟩ := Option.map_eq_some_iff.1 h
      simp [rdTo_len hl]
theorem rdTo_none {ps : List ByteArray} {i : Nat} (h : rdTo ps i = none) : ∀ d, rdTo ps (i + d) = none
  | 0 => h
  | d + 1 => by
    have := rdTo_none h d
    show rdTo ps ((i + d) + 1) = none
    unfold rdTo
    rw [this]
/-- The list of a text. -/
def rdl (s : ByteArray) : Option (List Int) := if s = noneS then some [] else if (ptsS 44 s).length ≤ 60 then rdTo (ptsS 44 s) (ptsS 44 s).length else none
theorem rdl_len {s : ByteArray} {l : List Int} (h : rdl s = some l) : l.length ≤ 60 := by
  unfold rdl at h
  split at h
  · cases h; simp
  · split at h
    · rw [rdTo_len h]; omega
    · cases h
end Go.Proofs.YtmkcahfhnehanaaDoor
/- strings.Cut and strings.Split at a mark of one byte: the library's contracts, laid at this program; as contracts here. -/
namespace Go.Proofs.YtmkcahfhnehanaaDoor
open Go.Shelf Go.RowKit Go.Lib Go.Sort Go.Proofs Go.Eng
def lays145_ren : Go.Shelf.Ren := ⟨fun | 145 => 31 | 220 => 50 | 219 => 64 | 217 => 77 | 225 => 78 | 224 => 79 | 267 => 80 | 266 => 96 | 314 => 97 | n => n, fun | 9 => 9 | 4 => 4 | 59 => 63 | 3 => 3 | 5 => 5 | 46 => 108 | 146 => 137 | 51 => 136 | n => n, fun | 1 => 0 | n => n⟩
theorem lays145 : Go.Proofs.Lays.n145 Tryd.prog lays145_ren := {
  mixed := by kernel_rfl
  f145 := Tryd.func31.trans (congrArg some (by kernel_rfl))
  f217 := Tryd.func77.trans (congrArg some (by kernel_rfl))
  f219 := Tryd.func64.trans (congrArg some (by kernel_rfl))
  f220 := Tryd.func50.trans (congrArg some (by kernel_rfl))
  f224 := Tryd.func79.trans (congrArg some (by kernel_rfl))
  f225 := Tryd.func78.trans (congrArg some (by kernel_rfl))
  f266 := Tryd.func96.trans (congrArg some (by kernel_rfl))
  f267 := Tryd.func80.trans (congrArg some (by kernel_rfl))
  f314 := Tryd.func97.trans (congrArg some (by kernel_rfl))
  t3 := Tryd.underlying3
  a3 := Tryd.isAgg3
  z3 := Tryd.sizeOf3
  v3 := Tryd.zeroValue3
  t4 := Tryd.underlying4
  a4 := Tryd.isAgg4
  z4 := Tryd.sizeOf4
  v4 := Tryd.zeroValue4
  t5 := Tryd.underlying5
  a5 := Tryd.isAgg5
  z5 := Tryd.sizeOf5
  v5 := Tryd.zeroValue5
  t9 := Tryd.underlying9
  a9 := Tryd.isAgg9
  z9 := Tryd.sizeOf9
  v9 := Tryd.zeroValue9
  t46 := Tryd.underlying108
  a46 := Tryd.isAgg108
  z46 := Tryd.sizeOf108
  v46 := Tryd.zeroValue108
  t51 := Tryd.underlying136
  a51 := Tryd.isAgg136
  z51 := Tryd.sizeOf136
  v51 := Tryd.zeroValue136
  t59 := Tryd.underlying63
  a59 := Tryd.isAgg63
  z59 := Tryd.sizeOf63
  v59 := Tryd.zeroValue63
  t146 := Tryd.underlying137
  a146 := Tryd.isAgg137
  z146 := Tryd.sizeOf137
  v146 := Tryd.zeroValue137
  g1 := by kernel_rfl }
def lays146_ren : Go.Shelf.Ren := ⟨fun | 146 => 47 | 221 => 63 | 268 => 74 | 138 => 75 | 143 => 76 | 195 => 93 | 197 => 94 | 218 => 95 | 219 => 64 | 260 => 118 | 217 => 77 | 225 => 78 | 224 => 79 | 267 => 80 | 266 => 96 | 314 => 97 | n => n, fun | 9 => 9 | 31 => 81 | 3 => 3 | 4 => 4 | 0 => 0 | 105 => 134 | 21 => 21 | 5 => 5 | 46 => 108 | 119 => 171 | 139 => 174 | 138 => 173 | 146 => 137 | 51 => 136 | n => n, fun | 1 => 0 | 3 => 4 | 4 => 5 | n => n⟩
theorem lays146 : Go.Proofs.Lays.n146 Tryd.prog lays146_ren := {
  mixed := by kernel_rfl
  f138 := Tryd.func75.trans (congrArg some (by kernel_rfl))
  f143 := Tryd.func76.trans (congrArg some (by kernel_rfl))
  f146 := Tryd.func47.trans (congrArg some (by kernel_rfl))
  f195 := Tryd.func93.trans (congrArg some (by kernel_rfl))
  f197 := Tryd.func94.trans (congrArg some (by kernel_rfl))
  f217 := Tryd.func77.trans (congrArg some (by kernel_rfl))
  f218 := Tryd.func95.trans (congrArg some (by kernel_rfl))
  f219 := Tryd.func64.trans (congrArg some (by kernel_rfl))
  f221 := Tryd.func63.trans (congrArg some (by kernel_rfl))
  f224 := Tryd.func79.trans (congrArg some (by kernel_rfl))
  f225 := Tryd.func78.trans (congrArg some (by kernel_rfl))
  f260 := Tryd.func118.trans (congrArg some (by kernel_rfl))
  f266 := Tryd.func96.trans (congrArg some (by kernel_rfl))
  f267 := Tryd.func80.trans (congrArg some (by kernel_rfl))
  f268 := Tryd.func74.trans (congrArg some (by kernel_rfl))
  f314 := Tryd.func97.trans (congrArg some (by kernel_rfl))
  t0 := Tryd.underlying0
  a0 := Tryd.isAgg0
  z0 := Tryd.sizeOf0
  v0 := Tryd.zeroValue0
  t3 := Tryd.underlying3
  a3 := Tryd.isAgg3
  z3 := Tryd.sizeOf3
  v3 := Tryd.zeroValue3
  t4 := Tryd.underlying4
  a4 := Tryd.isAgg4
  z4 := Tryd.sizeOf4
  v4 := Tryd.zeroValue4
  t5 := Tryd.underlying5
  a5 := Tryd.isAgg5
  z5 := Tryd.sizeOf5
  v5 := Tryd.zeroValue5
  t9 := Tryd.underlying9
  a9 := Tryd.isAgg9
  z9 := Tryd.sizeOf9
  v9 := Tryd.zeroValue9
  t21 := Tryd.underlying21
  a21 := Tryd.isAgg21
  z21 := Tryd.sizeOf21
  v21 := Tryd.zeroValue21
  t31 := Tryd.underlying81
  a31 := Tryd.isAgg81
  z31 := Tryd.sizeOf81
  v31 := Tryd.zeroValue81
  t46 := Tryd.underlying108
  a46 := Tryd.isAgg108
  z46 := Tryd.sizeOf108
  v46 := Tryd.zeroValue108
  t51 := Tryd.underlying136
  a51 := Tryd.isAgg136
  z51 := Tryd.sizeOf136
  v51 := Tryd.zeroValue136
  t105 := Tryd.underlying134
  a105 := Tryd.isAgg134
  z105 := Tryd.sizeOf134
  v105 := Tryd.zeroValue134
  t119 := Tryd.underlying171
  a119 := Tryd.isAgg171
  z119 := Tryd.sizeOf171
  t138 := Tryd.underlying173
  a138 := Tryd.isAgg173
  z138 := Tryd.sizeOf173
  v138 := Tryd.zeroValue173
  t139 := Tryd.underlying174
  a139 := Tryd.isAgg174
  z139 := Tryd.sizeOf174
  v139 := Tryd.zeroValue174
  t146 := Tryd.underlying137
  a146 := Tryd.isAgg137
  z146 := Tryd.sizeOf137
  v146 := Tryd.zeroValue137
  g1 := by kernel_rfl
  g3 := by kernel_rfl
  g4 := by kernel_rfl }
theorem gMax145 : lays145_ren.g 1 = 0 := by kernel_rfl
theorem gMax146 : lays146_ren.g 1 = 0 := by kernel_rfl
theorem hi146 : (Tryd.prog.info? (lays146_ren.t 9)).map (fun i => (i.zero, i.size, i.bytes)) = some (some (.string ByteArray.empty), 1, 16) := by kernel_rfl
theorem cell_at0 {w : World} {g : Nat} {cs : Array Value} {ev : Value} {T : TypeId} {fr : Nat × Nat} (h : w.heap[g]? = some (.cells cs T fr)) (h0 : cs[0]? = some ev) : w.cell? ⟨g, 0, none⟩ = some ev := by
  simp only [World.cell?, h]
  simpa using h0
theorem cut71_ac (s : ByteArray) (hs : s.size ≤ 1048576) (m : UInt8) {H : List ABox} {k : Nat} {M : Int} {cs : Array Value} {T : TypeId} {fr : Nat × Nat} (hc0 : cs[0]? = some (.int .i64 M)) (hk : H[k]? = some (.tab 0 (.cells cs T fr))) :
    AC Tryd.prog 31 [.v (.string (s)), .v (.string (⟨#[m]⟩))] H (fun r H' => r = .tup [.v (.string (⟨(cut s.data.toList [m]).1.toArray⟩)), .v (.string (⟨(cut s.data.toList [m]).2.1.toArray⟩)), .v (.bool ((cut s.data.toList [m]).2.2))] ∧ H' = H) := by
  refine AC.lib1 ⟨_, Tryd.func31, by decide, by decide⟩ fun c vs w hv hh => ?_
  obtain ⟨x, y, rfl, hx, hy⟩ := hv.args2
  have ex := hx.v_inv; have ey := hy.v_inv; subst ex; subst ey
  refine (Any.strings_Cut lays145 s ⟨#[m]⟩ M w (by omega) (by rw [gMax145]; exact cell_at0 (hh.tab hk) hc0)).mono ?_
  rintro e w' ⟨rfl, n, rfl⟩
  refine ⟨_, rfl, .tup (vs := [_, _, _]) rfl (fun i hi => by
    match i, hi with
    | 0, _ => exact .v _
    | 1, _ => exact .v _
    | 2, _ => exact .v _), ?_⟩
  exact ⟨rfl, rfl, rfl, Nat.le_refl _, fun _ _ => rfl⟩
theorem split79_ac (s : ByteArray) (hs : s.size ≤ 1048576) (m : UInt8) {H : List ABox} {k : Nat} {M : Int} {cs : Array Value} {T : TypeId} {fr : Nat × Nat} (hc0 : cs[0]? = some (.int .i64 M)) (hk : H[k]? = some (.tab 0 (.cells cs T fr))) :
    AC Tryd.prog 47 [.v (.string (s)), .v (.string (⟨#[m]⟩))] H (fun r H' => r = .sl 1 H.length 0 (ptsS m s).length ∧ H' = H ++ [.row false .str (ptsS m s)]) := by
  refine ⟨⟨_, Tryd.func47, by decide, by decide⟩, fun c vs w hv hh => ?_⟩
  obtain ⟨x, y, rfl, hx, hy⟩ := hv.args2
  have ex := hx.v_inv; have ey := hy.v_inv; subst ex; subst ey
  refine (Any.strings_Split lays146 hi146 s ⟨#[m]⟩ M w (by omega) (by rw [gMax146]; exact cell_at0 (hh.tab hk) hc0) (Nat.le_refl 1)).mono ?_
  rintro e w' ⟨rfl, rfl⟩
  have hl := splitB_all ⟨#[m]⟩ (Nat.le_refl 1) 0 (countB s ⟨#[m]⟩) s rfl
  rw [split_pts] at hl ⊢
  obtain ⟨c', he, hloc, hH⟩ := hh.newRow ((ptsS m s).map Value.string).toArray (lays146_ren.t 9) .str (ptsS m s) (ptsS m s).length (by simp [ETy.sz]) (Nat.le_refl _) (fun i j hi hj => by
    have hi' : i < (ptsS m s).length := hi
    obtain rfl : j = 0 := by simp only [ETy.sz] at hj; omega
    have e1 : (((ptsS m s).map Value.string).toArray.toList.getD (i * 1 + 0) undef) = Value.string ((ptsS m s).getD i ByteArray.empty) := by
      simp [List.getD, hi']
    show RelV c (.v (.string ((ptsS m s).getD i ByteArray.empty))) _
    simp only [ETy.sz]
    rw [e1]; exact .v _)
  refine ⟨c', _, _, _, he, rfl, ?_, hH, rfl, rfl⟩
  rw [← hl]
  exact RelV.sl (l := ⟨w.heap.size, 0, (ptsS m s).length⟩) hloc (by simp) (fun _ => ⟨rfl, by simp⟩)
end Go.Proofs.YtmkcahfhnehanaaDoor
/- Walks: lists that are marked. -/
namespace Go.Proofs.YtmkcahfhnehanaaDoor
open Go.Eng
/-- The numbers from k on. -/
def marks (k : Int) (n : Nat) : List Int := (List.range n).map (fun j : Nat => k + (j : Int))
end Go.Proofs.YtmkcahfhnehanaaDoor
/- Walks: a text cut at a mark; lists read. -/
namespace Go.Proofs.YtmkcahfhnehanaaDoor
open Go.Lib Go.Eng
end Go.Proofs.YtmkcahfhnehanaaDoor
/- Walks: lists read by the reference. -/
namespace Go.Proofs.YtmkcahfhnehanaaDoor
open Go.Lib Go.Eng
theorem ptsS_size (m : UInt8) (s : ByteArray) (i : Nat) : ((ptsS m s).getD i ByteArray.empty).size ≤ s.size := by
  by_cases h : i < (ptsS m s).length
  · have hm : (ptsS m s).getD i ByteArray.empty ∈ ptsS m s := by
      simp only [List.getD, List.getElem?_eq_getElem h, Option.getD_some]; exact List.getElem_mem h
    obtain ⟨q, hq, he⟩ := List.mem_map.1 hm
    rw [← he, bsz, ← data_len]
    exact pts_each m _ q hq
  · simp [List.getD, List.getElem?_eq_none (Nat.le_of_not_lt h)]
theorem ptsS_len (m : UInt8) (s : ByteArray) : (ptsS m s).length ≤ s.size + 1 := by
  have := pts_len m s.data.toList
  rw [data_len] at this
  simpa [ptsS] using this
/-- What a reader hands back: the list, new, or nothing. -/
def RdPost (o : Option (List Int)) (H : List ABox) (r : AVal) (H' : List ABox) : Prop := (∃ xs, o = some xs ∧ r = .tup [.sl 1 H.length 0 xs.length, .v (.bool (true))] ∧ H' = H ++ [.row false (.int .i64) xs]) ∨ (o = none ∧ r = .tup [.v (.slice none 0 0), .v (.bool (false))] ∧ H' = H)
theorem rdTo_step {P : List ByteArray} {i : Nat} {l : List Int} {n : Int} (h : rdTo P i = some l) (hn : rd (P.getD i ByteArray.empty) = some n) : rdTo P (i + 1) = some (l ++ [n]) := by
  simp only [rdTo, h, hn, Option.map_some]
theorem rdTo_stop {P : List ByteArray} {i : Nat} {l : List Int} (h : rdTo P i = some l) (hn : rd (P.getD i ByteArray.empty) = none) (hi : i < P.length) : rdTo P P.length = none := by
  have h1 : rdTo P (i + 1) = none := by simp only [rdTo, h, hn, Option.map_none]
  have := rdTo_none h1 (P.length - (i + 1))
  rwa [show i + 1 + (P.length - (i + 1)) = P.length by omega] at this
end Go.Proofs.YtmkcahfhnehanaaDoor
/- The plain law of texts in two parts; channels and points read; no program in sight. -/
namespace Go.Proofs.YtmkcahfhnehanaaDoor
open Go.Lib Go.Eng
theorem decDigits_bytes (u : Nat) : ∀ c ∈ decDigits u, 48 ≤ c.toNat ∧ c.toNat ≤ 57 := by
  induction u using Nat.strongRecOn with
  | _ u ih =>
    have hd : ∀ r, r < 10 → 48 ≤ (UInt8.ofNat (48 + r)).toNat ∧ (UInt8.ofNat (48 + r)).toNat ≤ 57 := fun r hr => by
      rw [UInt8.toNat_ofNat', Nat.mod_eq_of_lt (by omega)]; omega
    by_cases h : u < 10
    · rw [decDigits_small h]
      intro c hc
      rw [List.mem_singleton.1 hc]
      exact hd u h
    · rw [decDigits_big h]
      intro c hc
      rcases List.mem_append.1 hc with hc | hc
      · exact ih (u / 10) (by omega) c hc
      · rw [List.mem_singleton.1 hc]
        exact hd _ (by omega)
/-- A byte that a number's text may have. -/
def DecB (c : UInt8) : Prop := c.toNat = 45 ∨ (48 ≤ c.toNat ∧ c.toNat ≤ 57)
theorem rd_bytes {s : ByteArray} {n : Int} (h : rd s = some n) : ∀ c ∈ s.data.toList, DecB c := by
  unfold rd at h
  split at h
  · rename_i hd
    obtain ⟨_, he⟩ := hd
    intro c hc
    rw [← he] at hc
    have hc' : c ∈ itoa (rdN s) := hc
    rw [itoa_abs] at hc'
    split at hc'
    · rcases List.mem_cons.1 hc' with rfl | hc'
      · exact .inl rfl
      · exact .inr (decDigits_bytes _ c hc')
    · exact .inr (decDigits_bytes _ c hc')
  · cases h
theorem pts_bytes {m : UInt8} {Q : UInt8 → Prop} : ∀ (l : List UInt8), (∀ q ∈ pts m l, ∀ c ∈ q, Q c) → ∀ c ∈ l, c = m ∨ Q c
  | [], _, c, hc => by cases hc
  | b :: l, h, c, hc => by
    unfold pts at h
    split at h
    · rename_i hb
      rcases List.mem_cons.1 hc with rfl | hc
      · exact .inl hb
      · exact pts_bytes l (fun q hq => h q (List.mem_cons_of_mem _ hq)) c hc
    · cases e : pts m l with
      | nil => exact absurd e (pts_ne m l)
      | cons a r =>
        rw [e] at h
        simp only [glue] at h
        rcases List.mem_cons.1 hc with rfl | hc
        · exact .inr (h _ (List.mem_cons_self ..) c (by simp))
        · refine pts_bytes l (fun q hq => ?_) c hc
          rw [e] at hq
          rcases List.mem_cons.1 hq with rfl | hq
          · exact fun c hc => h _ (List.mem_cons_self ..) c (by simp [hc])
          · exact h q (List.mem_cons_of_mem _ hq)
theorem rdTo_each {P : List ByteArray} : ∀ {i : Nat} {l : List Int}, rdTo P i = some l → ∀ j, j < i → ∃ n, rd (P.getD j ByteArray.empty) = some n
  | 0, _, _, j, hj => absurd hj (by omega)
  | i + 1, l, h, j, hj => by
    unfold rdTo at h
    split at h
    · cases h
    · rename_i l' hl
      obtain ⟨n, hn, rfl⟩ := Option.map_eq_some_iff.1 h
      by_cases e : j = i
      · subst e; exact ⟨n, hn⟩
      · exact rdTo_each hl j (by omega)
/-- A byte that a list's text may have. -/
def ListB (c : UInt8) : Prop := c.toNat ≠ 47 ∧ c.toNat ≠ 46
theorem DecB.list {c : UInt8} (h : DecB c) : ListB c := by unfold DecB at h; unfold ListB; omega
theorem rdl_bytes {s : ByteArray} {l : List Int} (h : rdl s = some l) : ∀ c ∈ s.data.toList, c.toNat ≠ 47 := by
  unfold rdl at h
  split at h
  · rename_i hn
    subst hn
    intro c hc
    have hc' : c ∈ ([110, 111, 110, 101] : List UInt8) := hc
    simp only [List.mem_cons, List.mem_nil_iff, or_false] at hc'
    rcases hc' with rfl | rfl | rfl | rfl <;> decide
  · split at h
    · have he := rdTo_each h
      intro c hc
      have hq : ∀ q ∈ pts 44 s.data.toList, ∀ c ∈ q, c.toNat ≠ 47 := fun q hq c hc => by
        obtain ⟨j, hj, hjq⟩ := List.mem_iff_getElem.1 hq
        have hjl : j < (ptsS 44 s).length := by simpa [ptsS] using hj
        obtain ⟨n, hn⟩ := he j hjl
        have e : (ptsS 44 s).getD j ByteArray.empty = ⟨q.toArray⟩ := by
          simp [ptsS, List.getD, List.getElem?_map, List.getElem?_eq_getElem hj, hjq]
        rw [e] at hn
        have hcc := rd_bytes hn c hc
        unfold DecB at hcc; omega
      rcases pts_bytes _ hq c hc with rfl | h2
      · decide
      · exact h2
    · cases h
/-- A text in two parts, by the first mark or by all of them. -/
theorem cut_two (m : UInt8) (s : ByteArray) {A Q : ByteArray → Prop} (hQ : ∀ b, Q b → Free m b.data.toList) :
    ((cut s.data.toList [m]).2.2 = true ∧ A ⟨(cut s.data.toList [m]).1.toArray⟩ ∧ Q ⟨(cut s.data.toList [m]).2.1.toArray⟩) ↔ ((ptsS m s).length = 2 ∧ A ((ptsS m s).getD 0 ByteArray.empty) ∧ Q ((ptsS m s).getD 1 ByteArray.empty)) := by
  unfold ptsS
  rcases cut_pts m s.data.toList with ⟨h1, h2⟩ | ⟨p, r, h1, h2, h3⟩
  · rw [h2, pts_free h1]
    constructor
    · intro h; cases h.1
    · intro h; exact absurd h.1 (by simp)
  · rw [h3]
    have e : pts m s.data.toList = p :: pts m r := by rw [h1, pts_at h2]
    rw [e]
    constructor
    · intro ⟨_, ha, hq⟩
      have hf := hQ _ hq
      have e2 : pts m r = [r] := pts_free hf
      rw [e2]
      exact ⟨rfl, ha, hq⟩
    · intro ⟨hl, ha, hq⟩
      rcases cut_pts m r with ⟨g1, _⟩ | ⟨p', r', g1, g2, _⟩
      · rw [pts_free g1] at hq
        exact ⟨rfl, ha, hq⟩
      · exfalso
        rw [g1, pts_at g2] at hl
        have := pts_ne m r'
        cases e3 : pts m r' with
        | nil => exact this e3
        | cons a b => rw [e3] at hl; simp at hl
/-- A text that is that channel's. -/
def IsRdc (s : ByteArray) (c : Ch) : Prop := (ptsS 47 s).length = 2 ∧ rdl ((ptsS 47 s).getD 0 ByteArray.empty) = some c.1 ∧ rdl ((ptsS 47 s).getD 1 ByteArray.empty) = some c.2 ∧ ChOk c
theorem rdc_cut (s : ByteArray) (x y : List Int) : ((cut s.data.toList [47]).2.2 = true ∧ rdl ⟨(cut s.data.toList [47]).1.toArray⟩ = some x ∧ rdl ⟨(cut s.data.toList [47]).2.1.toArray⟩ = some y) ↔ ((ptsS 47 s).length = 2 ∧ rdl ((ptsS 47 s).getD 0 ByteArray.empty) = some x ∧ rdl ((ptsS 47 s).getD 1 ByteArray.empty) = some y) :=
  cut_two 47 s (A := fun b => rdl b = some x) (Q := fun b => rdl b = some y) (fun b hb c hc e => rdl_bytes hb c hc (by rw [e]; rfl))
theorem cut_len (m : UInt8) (s : ByteArray) : (cut s.data.toList [m]).1.length ≤ s.size ∧ (cut s.data.toList [m]).2.1.length ≤ s.size := by
  have hl : s.data.toList.length = s.size := Array.length_toList
  rcases cut_pts m s.data.toList with ⟨h1, h2⟩ | ⟨p, r, h1, h2, h3⟩
  · rw [h2]; simp only [List.length_nil]; omega
  · rw [h3]
    have := congrArg List.length h1
    simp only [List.length_append, List.length_cons] at this
    simp only
    omega
end Go.Proofs.YtmkcahfhnehanaaDoor
end
section
set_option linter.unusedSimpArgs false
set_option linter.unusedVariables false
namespace Go.Proofs.YtmkcahfhnehanaaDoor
open Go.Lib Go.Eng
/-- The byte of a cell. -/
def cellB (n : Int) : UInt8 := if n = 0 then 35 else UInt8.ofNat (48 + n.toNat)
def rowB (r : List Int) (x : Nat) : List UInt8 := (r.take x).map cellB
def rowsB (m : Mz) (y : Nat) : List (List UInt8) := (m.take y).map fun r => rowB r r.length
theorem MzOk.row {m : Mz} (h : MzOk m) {y : Nat} (hy : y < m.length) : (m.getD y []).length ≤ 12 ∧ ∀ x, x < (m.getD y []).length → 0 ≤ (m.getD y []).getD x 0 ∧ (m.getD y []).getD x 0 ≤ 9 := by
  have h1 := h.2.2 y hy
  have h2 := h.2.1
  exact ⟨by have := h1.1; omega, h1.2⟩
end Go.Proofs.YtmkcahfhnehanaaDoor
end
section
set_option linter.unusedSimpArgs false
set_option linter.unusedVariables false
namespace Go.Proofs.YtmkcahfhnehanaaDoor
open Go.Lib Go.Eng
def GoodB (c : UInt8) : Prop := c = 35 ∨ (49 ≤ c.toNat ∧ c.toNat ≤ 57)
instance (c : UInt8) : Decidable (GoodB c) := by unfold GoodB; exact inferInstance
end Go.Proofs.YtmkcahfhnehanaaDoor
end
section
set_option linter.unusedSimpArgs false
set_option linter.unusedVariables false
namespace Go.Proofs.YtmkcahfhnehanaaDoor
open Go.Lib Go.Eng
theorem pts_join {x : UInt8} : ∀ {A : List (List UInt8)}, A ≠ [] → (∀ p ∈ A, Free x p) → pts x (join A [x]) = A
  | [], h, _ => absurd rfl h
  | [a], _, hf => by
    rw [show join [a] [x] = a from join_one _ _]
    exact pts_free (hf a (by simp))
  | a :: b :: A, _, hf => by
    have ih := pts_join (x := x) (A := b :: A) (by simp) (fun p hp => hf p (List.mem_cons_of_mem _ hp))
    have e : join (a :: b :: A) [x] = a ++ x :: join (b :: A) [x] := by
      rw [join_cons, join_cons]
      simp [joinTail]
    rw [e, pts_at (hf a (by simp)), ih]
end Go.Proofs.YtmkcahfhnehanaaDoor
end
section
set_option linter.unusedSimpArgs false
set_option linter.unusedVariables false
namespace Go.Proofs.YtmkcahfhnehanaaDoor
open Go.Lib Go.Eng
theorem itoa_dec (n : Int) : ∀ c ∈ itoa n, DecB c := by
  intro c hc
  rw [itoa_abs] at hc
  split at hc
  · rcases List.mem_cons.1 hc with rfl | hc
    · exact .inl rfl
    · exact .inr (decDigits_bytes _ c hc)
  · exact .inr (decDigits_bytes _ c hc)
theorem rd_itoa {n : Int} (h : -1000000000 ≤ n ∧ n ≤ 1000000000) : rd ⟨(itoa n).toArray⟩ = some n := rd_of ⟨h, rfl⟩
theorem rdTo_itoa {xs : List Int} (h : ∀ x ∈ xs, -1000000000 ≤ x ∧ x ≤ 1000000000) : ∀ i, i ≤ xs.length → rdTo (xs.map fun x => (⟨(itoa x).toArray⟩ : ByteArray)) i = some (xs.take i)
  | 0, _ => by simp [rdTo]
  | i + 1, hi => by
    have ih := rdTo_itoa h i (by omega)
    have hx : (xs.map fun x => (⟨(itoa x).toArray⟩ : ByteArray)).getD i ByteArray.empty = ⟨(itoa (xs.getD i 0)).toArray⟩ := by
      have hi' : i < xs.length := by omega
      simp [List.getD, hi']
    have hm : xs.getD i 0 ∈ xs := by
      have hi' : i < xs.length := by omega
      simp only [List.getD, List.getElem?_eq_getElem hi', Option.getD_some]; exact List.getElem_mem hi'
    have e : xs.take (i + 1) = xs.take i ++ [xs.getD i 0] := by
      have hi' : i < xs.length := by omega
      rw [List.take_add_one, List.getElem?_eq_getElem hi']; simp [List.getD, hi']
    unfold rdTo
    rw [ih, hx, rd_itoa (h _ hm), e]
    rfl
/-- What is read of a list's text is the list. -/
theorem text_back {xs : List Int} (h : ∀ x ∈ xs, -1000000000 ≤ x ∧ x ≤ 1000000000) (hl : xs.length ≤ 60) : rdl ⟨(textB xs).toArray⟩ = some xs := by
  by_cases h0 : xs.length = 0
  · have e : xs = [] := List.length_eq_zero_iff.1 h0
    subst e
    rfl
  · have ht : textB xs = join (xs.map itoa) [44] := by
      unfold textB joinTo
      rw [if_neg h0, List.take_length]
    have hp : pts 44 (textB xs) = xs.map itoa := by
      rw [ht]
      refine pts_join (fun e => h0 (by have := congrArg List.length e; simpa using this)) (fun p hp => ?_)
      obtain ⟨x, _, rfl⟩ := List.mem_map.1 hp
      intro c hc e
      have := itoa_dec x c hc
      subst e
      unfold DecB at this
      simp at this
    have hb := pts_bytes (m := 44) (Q := DecB) (textB xs) (by
      rw [hp]
      intro q hq
      obtain ⟨x, _, rfl⟩ := List.mem_map.1 hq
      exact itoa_dec x)
    have hn : ¬ (⟨(textB xs).toArray⟩ : ByteArray) = noneS := fun e => by
      have e2 : textB xs = [110, 111, 110, 101] := congrArg (fun s : ByteArray => s.data.toList) e
      have := hb 110 (by rw [e2]; simp)
      rcases this with h | h
      · exact absurd h (by decide)
      · unfold DecB at h; simp at h
    have hS : ptsS 44 ⟨(textB xs).toArray⟩ = xs.map fun x => (⟨(itoa x).toArray⟩ : ByteArray) := by
      unfold ptsS
      show (pts 44 (textB xs)).map _ = _
      rw [hp, List.map_map]
      rfl
    unfold rdl
    rw [if_neg hn, hS, List.length_map, if_pos hl, rdTo_itoa h _ (Nat.le_refl _), List.take_length]
/-- What is read of a channel's text is the channel. -/
theorem chan_back {c : Ch} (hok : ChOk c) : IsRdc ⟨(textB c.1 ++ [47] ++ textB c.2).toArray⟩ c := by
  have hv := hok.2.1
  have h1 := text_back (xs := c.1) (fun x hx => by have := hv x (List.mem_append_left _ hx); omega) (by have := hok.1; omega)
  have h2 := text_back (xs := c.2) (fun x hx => by have := hv x (List.mem_append_right _ hx); omega) (by have := hok.1; omega)
  have f1 : Free 47 (textB c.1) := fun b hb e => rdl_bytes h1 b hb (by rw [e]; rfl)
  have f2 : Free 47 (textB c.2) := fun b hb e => rdl_bytes h2 b hb (by rw [e]; rfl)
  have hS : ptsS 47 ⟨(textB c.1 ++ [47] ++ textB c.2).toArray⟩ = [⟨(textB c.1).toArray⟩, ⟨(textB c.2).toArray⟩] := by
    unfold ptsS
    show (pts 47 (textB c.1 ++ [47] ++ textB c.2)).map _ = _
    rw [List.append_assoc, List.singleton_append, pts_at f1, pts_free f2]
    rfl
  unfold IsRdc
  rw [hS]
  exact ⟨rfl, h1, h2, hok⟩
end Go.Proofs.YtmkcahfhnehanaaDoor
end
section
set_option linter.unusedSimpArgs false
set_option linter.unusedVariables false
set_option maxHeartbeats 1000000
namespace Go.Proofs.YtmkcahfhnehanaaDoor
open Go.Lib Go.Eng
theorem textB_len {xs : List Int} (hx : xs.length ≤ 60) (hr : ∀ j, j < xs.length → -9223372036854775808 ≤ xs.getD j 0 ∧ xs.getD j 0 ≤ 9223372036854775807) : (textB xs).length ≤ 1260 := by
  unfold textB
  split
  · simp
  · have := joinTo_len hr (xs.length - 1) (by omega)
    rw [show xs.length - 1 + 1 = xs.length by omega] at this
    omega
theorem ChOk.rng {c : Ch} (h : ChOk c) : (c.1.length ≤ 60 ∧ ∀ j, j < c.1.length → -9223372036854775808 ≤ c.1.getD j 0 ∧ c.1.getD j 0 ≤ 9223372036854775807) ∧ c.2.length ≤ 60 ∧ ∀ j, j < c.2.length → -9223372036854775808 ≤ c.2.getD j 0 ∧ c.2.getD j 0 ≤ 9223372036854775807 := by
  obtain ⟨⟨h1, h2, h3⟩, h4, h5⟩ := h.at
  refine ⟨⟨by omega, fun j hj => ?_⟩, by omega, fun j hj => ?_⟩
  · have := h4 j hj; omega
  · have := h5 j (by omega); omega
def chB (c : Ch) : List UInt8 := textB c.1 ++ [47] ++ textB c.2
theorem impl46_ac (c : Ch) (hx : c.1.length ≤ 1000000000) (hy : c.2.length ≤ 1000000000) (T : TypeId) (fr : Nat × Nat) {H : List ABox} {k : Nat} (hk : H[k]? = some (.tab 1 (.cells powCells T fr))) :
    AC Tryd.prog 9 [.agg [.rd (.int .i64) (c).1, .rd (.int .i64) (c).2]] H (fun r H' => r = .tup [.v (.string (@ite _ (ChOk c) (Classical.propDecidable _) ⟨(chB c).toArray⟩ ⟨#[]⟩)), .v (.bool (decide (ChOk c)))] ∧ H' = H) := by
  by_cases hok : ChOk c
  · have hd : decide (ChOk c) = true := decide_eq_true hok
    obtain ⟨⟨h1, h2⟩, h3, h4⟩ := hok.rng
    have l1 := textB_len h1 h2
    have l2 := textB_len h3 h4
    refine AC.enter envOk Tryd.func9 rfl (by decide) Tryd.ntmps9 Tryd.results9 (by simp) fun hB => ?_
    repeat' (first | (with_reducible first | refine AW.sreg envOk fun K hK => ?_ | refine AW.region envOk fun K hK => ?_) | (with_reducible refine AW.d0reg envOk mixed ?_ ?_ fun K hK => ?_; (first | rfl | exact base_len | exact base_len0); kernel_rfl) | (with_reducible refine AW.d0 envOk mixed ?_ ?_ fun K hK => ?_; (first | rfl | exact base_len | exact base_len0); kernel_rfl) | (with_reducible first | refine vcD_nil ?_ | refine vcL_nil ?_) | (with_reducible (first | refine vcD_cons fun K' hK' => ?_ | refine vcL_cons fun K' hK' => ?_); simp only [isC, Bool.false_or, Bool.or_true, ↓reduceDIte, List.take_length, Nat.le_refl, List.drop_zero, vGuard, undef, Bool.not_eq_eq_eq_not, dstOk, vcOp, vcF, isPure, putS, vcCall, St.ev, St.put, lk, AVal.ofVal, initS, Nat.reduceLT, true_and, and_true, vBin, vUn, vPart, vLoad, vFldA, vBox, partsA, fillA, decAll, AVal.flat, AVal.cell, cellsOk, setRange, ETy.enc, ETy.dec, ETy.sz, ETy.d, cond, Nat.reduceBEq, Nat.reduceAdd, Int.toNat_natCast, List.length_set, List.length_append, List.length_replicate, List.length_take, Nat.reduceSub, Nat.reduceEqDiff, get_loc, setBox_loc, next_eq, List.length_cons, List.length_nil, List.map_cons, List.map_nil, List.append_nil, List.nil_append, List.cons_append, List.set_cons_zero, List.set_cons_succ, getD_zero, getD_succ, List.getElem?_cons_succ, List.getElem?_cons_zero, List.take_succ_cons, List.take_zero, List.drop_succ_cons, List.all_cons, List.all_nil, Bool.and_true, Bool.true_and, Option.bind_some, Option.map_some, Option.map_none, decide_eq_true_eq, decide_eq_false_iff_not, ne_eq, Bool.not_eq_true, Bool.not_eq_false, Decidable.not_not, not_true_eq_false, not_false_eq_true, forall_const, false_implies, Bool.true_eq_false, Bool.false_eq_true, reduceCtorEq, decide_true, decide_false, Bool.not_true, Bool.not_false, if_true, if_false, Nat.zero_add, Nat.lt_irrefl, Value.oneCell', gt_iff_lt, Nat.reduceLeDiff, Nat.lt_add_one, vvar_4, vzero_4, vknd_4, vsn_4, vvar_9, vzero_9, vknd_9, vsn_9, vsl_24, vkn_24, vvar_24, vzero_24, vvar_26, vzero_26, vbld_26, vfld_26_0, vfld_26_1, hd, bsz, bapp]; try simp (disch := omega) only [wrap64]) | (with_reducible refine hK' _ ?_; clear hK' K') | (with_reducible refine hK _ ?_; clear hK K) | ((with_reducible show vCall _ (AVal.fn 11 _) _ _ _); refine vCall_pure (is17_ac c hx hy _) ?_) | ((with_reducible show vcC _ 11 _ _ _); refine vcC_pure (is17_ac c hx hy _) ?_) | (with_reducible first | refine vcC_pure (listText61_ac c.1 h1 h2 T fr (getT hk)) ?_ | refine vCall_pure (listText61_ac c.1 h1 h2 T fr (getT hk)) ?_ | refine vcC_pure (listText61_ac c.2 h3 h4 T fr (getT hk)) ?_ | refine vCall_pure (listText61_ac c.2 h3 h4 T fr (getT hk)) ?_ | refine And.intro (And.intro rfl rfl) ?_ | refine And.intro (by omega) ?_) | (with_reducible refine And.intro (fun hg => ?_) (fun hg => ?_) <;> first | simp only [eq_false hg, rsB] | simp only [eq_true hg, rsB] | simp only [hg, rsB]) | (with_reducible first | refine And.intro rfl (And.intro rfl rfl) | refine thenQ_n ?_ | refine thenQ_exit ?_ | refine thenQ_ret ?_ | refine midQ_ret ?_ | refine midQ_exit ?_ | refine blockQ_same ?_ | refine blockQ_ne (by decide) ?_ | refine blockQ_ret ?_ | refine blockQ_n ?_ | refine AW.exit ?_ | refine AW.block ?_ | refine AW.cond_t rfl ?_ | refine AW.cond_f rfl ?_ | refine AW.cond_dec rfl (fun hc => ?_) (fun hc => ?_)) | (with_reducible refine AW.cond rfl (fun hc => ?_) (fun hc => ?_) <;> try simp only [Bool.not_eq_eq_eq_not, Bool.not_true, Bool.not_false, decide_eq_true_eq, decide_eq_false_iff_not] at hc) | (with_reducible first | refine AW.seq ?_ | refine AW.skip ?_ | refine AW.ret ?_ | refine And.intro ?_ ?_) | (with_reducible intro hg; first | simp only [eq_false hg, rsB] | simp only [eq_true hg, rsB]) | (with_reducible refine retQ_drop ?_; simp only [vRes, packRes, vLoad, vPart, lk, cond, Nat.reduceBEq, get_loc, getD_zero, getD_succ, true_and, List.length_cons, List.length_nil, Nat.reduceAdd, Nat.reduceLT, Nat.reduceLeDiff, List.take_succ_cons, List.take_zero, List.drop_succ_cons, List.drop_zero, vvar_4, vzero_4, vknd_4, vsn_4, vvar_9, vzero_9, vknd_9, vsn_9, vsl_24, vkn_24, vvar_24, vzero_24, vvar_26, vzero_26, vbld_26, vfld_26_0, vfld_26_1]) )
    rw [if_pos hok, hd]
    exact ⟨_, _, FinOk.drop hB (Pl.ids (by (repeat' (first | exact Pl.v _ | exact Pl.junk | exact Pl.rd rfl _ | exact pl_nil | refine pl_cons ?_ ?_ | refine Pl.agg ?_ | refine Pl.tup ?_ | refine Pl.rp ?_ | refine Pl.fn ?_)); (first | done | fail))), rfl, rfl⟩
  · have hd : decide (ChOk c) = false := decide_eq_false hok
    refine AC.enter envOk Tryd.func9 rfl (by decide) Tryd.ntmps9 Tryd.results9 (by simp) fun hB => ?_
    repeat' (first | (with_reducible first | refine AW.sreg envOk fun K hK => ?_ | refine AW.region envOk fun K hK => ?_) | (with_reducible refine AW.d0reg envOk mixed ?_ ?_ fun K hK => ?_; (first | rfl | exact base_len | exact base_len0); kernel_rfl) | (with_reducible refine AW.d0 envOk mixed ?_ ?_ fun K hK => ?_; (first | rfl | exact base_len | exact base_len0); kernel_rfl) | (with_reducible first | refine vcD_nil ?_ | refine vcL_nil ?_) | (with_reducible (first | refine vcD_cons fun K' hK' => ?_ | refine vcL_cons fun K' hK' => ?_); simp only [isC, Bool.false_or, Bool.or_true, ↓reduceDIte, List.take_length, Nat.le_refl, List.drop_zero, vGuard, undef, Bool.not_eq_eq_eq_not, dstOk, vcOp, vcF, isPure, putS, vcCall, St.ev, St.put, lk, AVal.ofVal, initS, Nat.reduceLT, true_and, and_true, vBin, vUn, vPart, vLoad, vFldA, vBox, partsA, fillA, decAll, AVal.flat, AVal.cell, cellsOk, setRange, ETy.enc, ETy.dec, ETy.sz, ETy.d, cond, Nat.reduceBEq, Nat.reduceAdd, Int.toNat_natCast, List.length_set, List.length_append, List.length_replicate, List.length_take, Nat.reduceSub, Nat.reduceEqDiff, get_loc, setBox_loc, next_eq, List.length_cons, List.length_nil, List.map_cons, List.map_nil, List.append_nil, List.nil_append, List.cons_append, List.set_cons_zero, List.set_cons_succ, getD_zero, getD_succ, List.getElem?_cons_succ, List.getElem?_cons_zero, List.take_succ_cons, List.take_zero, List.drop_succ_cons, List.all_cons, List.all_nil, Bool.and_true, Bool.true_and, Option.bind_some, Option.map_some, Option.map_none, decide_eq_true_eq, decide_eq_false_iff_not, ne_eq, Bool.not_eq_true, Bool.not_eq_false, Decidable.not_not, not_true_eq_false, not_false_eq_true, forall_const, false_implies, Bool.true_eq_false, Bool.false_eq_true, reduceCtorEq, decide_true, decide_false, Bool.not_true, Bool.not_false, if_true, if_false, Nat.zero_add, Nat.lt_irrefl, Value.oneCell', gt_iff_lt, Nat.reduceLeDiff, Nat.lt_add_one, vvar_4, vzero_4, vknd_4, vsn_4, vvar_9, vzero_9, vknd_9, vsn_9, vsl_24, vkn_24, vvar_24, vzero_24, vvar_26, vzero_26, vbld_26, vfld_26_0, vfld_26_1, hd]; try simp (disch := omega) only [wrap64]) | (with_reducible refine hK' _ ?_; clear hK' K') | (with_reducible refine hK _ ?_; clear hK K) | ((with_reducible show vCall _ (AVal.fn 11 _) _ _ _); refine vCall_pure (is17_ac c hx hy _) ?_) | ((with_reducible show vcC _ 11 _ _ _); refine vcC_pure (is17_ac c hx hy _) ?_) | (with_reducible first | refine And.intro (And.intro rfl rfl) ?_ | refine And.intro (by omega) ?_) | (with_reducible refine And.intro (fun hg => ?_) (fun hg => ?_) <;> first | simp only [eq_false hg, rsB] | simp only [eq_true hg, rsB] | simp only [hg, rsB]) | (with_reducible first | refine And.intro rfl (And.intro rfl rfl) | refine thenQ_n ?_ | refine thenQ_exit ?_ | refine thenQ_ret ?_ | refine midQ_ret ?_ | refine midQ_exit ?_ | refine blockQ_same ?_ | refine blockQ_ne (by decide) ?_ | refine blockQ_ret ?_ | refine blockQ_n ?_ | refine AW.exit ?_ | refine AW.block ?_ | refine AW.cond_t rfl ?_ | refine AW.cond_f rfl ?_ | refine AW.cond_dec rfl (fun hc => ?_) (fun hc => ?_)) | (with_reducible refine AW.cond rfl (fun hc => ?_) (fun hc => ?_) <;> try simp only [Bool.not_eq_eq_eq_not, Bool.not_true, Bool.not_false, decide_eq_true_eq, decide_eq_false_iff_not] at hc) | (with_reducible first | refine AW.seq ?_ | refine AW.skip ?_ | refine AW.ret ?_ | refine And.intro ?_ ?_) | (with_reducible intro hg; first | simp only [eq_false hg, rsB] | simp only [eq_true hg, rsB]) | (with_reducible refine retQ_drop ?_; simp only [vRes, packRes, vLoad, vPart, lk, cond, Nat.reduceBEq, get_loc, getD_zero, getD_succ, true_and, List.length_cons, List.length_nil, Nat.reduceAdd, Nat.reduceLT, Nat.reduceLeDiff, List.take_succ_cons, List.take_zero, List.drop_succ_cons, List.drop_zero, vvar_4, vzero_4, vknd_4, vsn_4, vvar_9, vzero_9, vknd_9, vsn_9, vsl_24, vkn_24, vvar_24, vzero_24, vvar_26, vzero_26, vbld_26, vfld_26_0, vfld_26_1]) )
    rw [if_neg hok, hd]
    exact ⟨_, _, FinOk.drop hB (Pl.ids (by (repeat' (first | exact Pl.v _ | exact Pl.junk | exact Pl.rd rfl _ | exact pl_nil | refine pl_cons ?_ ?_ | refine Pl.agg ?_ | refine Pl.tup ?_ | refine Pl.rp ?_ | refine Pl.fn ?_)); (first | done | fail))), rfl, rfl⟩
end Go.Proofs.YtmkcahfhnehanaaDoor
end
section
set_option linter.unusedSimpArgs false
set_option linter.unusedVariables false
set_option maxHeartbeats 1000000
namespace Go.Proofs.YtmkcahfhnehanaaDoor
open Go.Lib Go.Eng
def HasMax (H : List ABox) : Prop := ∃ (k : Nat) (M : Int) (cs : Array Value) (T : TypeId) (fr : Nat × Nat), cs[0]? = some (Value.int .i64 M) ∧ H[k]? = some (ABox.tab 0 (.cells cs T fr))
theorem HasMax.app {H : List ABox} (h : HasMax H) (l : List ABox) : HasMax (H ++ l) := by
  obtain ⟨k, M, cs, T, fr, h0, h⟩ := h
  exact ⟨k, M, cs, T, fr, h0, getT h⟩
theorem split_ac (s : ByteArray) (hs : s.size ≤ 1048576) (m : UInt8) {H : List ABox} (hm : HasMax H) : AC Tryd.prog 47 [.v (.string (s)), .v (.string (⟨#[m]⟩))] H (fun r H' => r = .sl 1 H.length 0 (ptsS m s).length ∧ H' = H ++ [.row false .str (ptsS m s)]) := by
  obtain ⟨k, M, cs, T, fr, h0, h⟩ := hm
  exact split79_ac s hs m h0 h
theorem parted69n_ac (s : ByteArray) (hn : s = noneS) (H : List ABox) : AC Tryd.prog 51 [.v (.string (s))] H (fun r H' => r = .v (.slice none 0 0) ∧ H' = H) := by
  have hn' : (s = ⟨#[110, 111, 110, 101]⟩) = True := eq_true hn
  refine AC.enter envOk Tryd.func51 rfl (by decide) Tryd.ntmps51 Tryd.results51 (by simp) fun hB => ?_
  repeat' (first | (with_reducible first | refine AW.sreg envOk fun K hK => ?_ | refine AW.region envOk fun K hK => ?_ | refine vcL_nil ?_) | (with_reducible (first | refine vcL_cons fun K' hK' => ?_); simp only [isC, Bool.false_or, Bool.or_true, ↓reduceDIte, List.take_length, Nat.le_refl, List.drop_zero, vGuard, undef, Bool.not_eq_eq_eq_not, dstOk, vcOp, vcF, isPure, putS, vcCall, St.ev, St.put, lk, AVal.ofVal, initS, Nat.reduceLT, true_and, and_true, vBin, vPart, vLoad, vSlice, bnd, AVal.flat, AVal.cell, cellsOk, setRange, ETy.enc, ETy.dec, ETy.sz, ETy.d, cond, Nat.reduceBEq, Nat.reduceAdd, Int.toNat_natCast, List.length_set, List.length_append, List.length_replicate, List.length_take, Nat.reduceSub, Nat.reduceEqDiff, get_loc, setBox_loc, next_eq, List.length_cons, List.length_nil, List.map_cons, List.map_nil, List.append_nil, List.nil_append, List.cons_append, List.set_cons_zero, List.set_cons_succ, getD_zero, getD_succ, List.getElem?_cons_succ, List.getElem?_cons_zero, List.take_succ_cons, List.take_zero, List.drop_succ_cons, List.all_cons, List.all_nil, Bool.and_true, Bool.true_and, Option.bind_some, Option.map_some, Option.map_none, decide_eq_true_eq, decide_eq_false_iff_not, ne_eq, Bool.not_eq_true, Bool.not_eq_false, Decidable.not_not, not_true_eq_false, not_false_eq_true, forall_const, false_implies, Bool.true_eq_false, Bool.false_eq_true, reduceCtorEq, decide_true, decide_false, Bool.not_true, Bool.not_false, if_true, if_false, Nat.zero_add, Nat.lt_irrefl, Value.oneCell', gt_iff_lt, Nat.reduceLeDiff, Nat.lt_add_one, vvar_4, vzero_4, vknd_4, vsn_4, vvar_9, vzero_9, vknd_9, vsn_9, vsl_81, vkn_81, vvar_81, vzero_81, hn']; try simp (disch := omega) only [wrap64]) | (with_reducible refine hK' _ ?_; clear hK' K') | (with_reducible refine hK _ ?_; clear hK K) | (with_reducible first | refine And.intro (And.intro rfl rfl) ?_ | refine And.intro (by omega) ?_) | (with_reducible refine And.intro (fun hg => ?_) (fun hg => ?_) <;> first | simp only [eq_false hg, rsB] | simp only [eq_true hg, rsB] | simp only [hg, rsB]) | (with_reducible first | refine And.intro rfl (And.intro rfl rfl) | refine thenQ_n ?_ | refine thenQ_exit ?_ | refine thenQ_ret ?_ | refine midQ_ret ?_ | refine midQ_exit ?_ | refine blockQ_same ?_ | refine blockQ_ne (by decide) ?_ | refine blockQ_ret ?_ | refine blockQ_n ?_ | refine AW.exit ?_ | refine AW.block ?_ | refine AW.cond_t rfl ?_ | refine AW.cond_f rfl ?_ | refine AW.cond_dec rfl (fun hc => ?_) (fun hc => ?_)) | (with_reducible refine AW.cond rfl (fun hc => ?_) (fun hc => ?_) <;> try simp only [Bool.not_eq_eq_eq_not, Bool.not_true, Bool.not_false, decide_eq_true_eq, decide_eq_false_iff_not] at hc) | (with_reducible first | refine AW.seq ?_ | refine AW.skip ?_ | refine AW.ret ?_ | refine And.intro ?_ ?_) | (with_reducible intro hg; first | simp only [eq_false hg, rsB] | simp only [eq_true hg, rsB]) | (with_reducible refine retQ_drop ?_; simp only [vRes, packRes, vLoad, vPart, lk, cond, Nat.reduceBEq, get_loc, getD_zero, getD_succ, true_and, List.length_cons, List.length_nil, Nat.reduceAdd, Nat.reduceLT, Nat.reduceLeDiff, List.take_succ_cons, List.take_zero, List.drop_succ_cons, List.drop_zero, vvar_4, vzero_4, vknd_4, vsn_4, vvar_9, vzero_9, vknd_9, vsn_9, vsl_81, vkn_81, vvar_81, vzero_81]) )
  exact ⟨_, _, FinOk.drop hB (Pl.ids (by (repeat' (first | exact Pl.v _ | exact Pl.junk | exact Pl.rd rfl _ | exact pl_nil | refine pl_cons ?_ ?_ | refine Pl.agg ?_ | refine Pl.tup ?_ | refine Pl.rp ?_ | refine Pl.fn ?_)); (first | done | fail))), rfl, rfl⟩
theorem parted69_ac (s : ByteArray) (hs : s.size ≤ 1048576) (hn : ¬ s = noneS) {H : List ABox} (hm : HasMax H) : AC Tryd.prog 51 [.v (.string (s))] H (fun r H' => r = .sl 1 H.length 0 (ptsS 44 s).length ∧ H' = H ++ [.row false .str (ptsS 44 s)]) := by
  have hn' : (s = ⟨#[110, 111, 110, 101]⟩) = False := eq_false hn
  have hc := fun {H : List ABox} (hm : HasMax H) => split_ac s hs 44 hm
  have hpl := ptsS_len 44 s
  generalize ptsS 44 s = P at hpl hc ⊢
  refine AC.enter envOk Tryd.func51 rfl (by decide) Tryd.ntmps51 Tryd.results51 (by simp) fun hB => ?_
  repeat' (first | (with_reducible first | refine AW.sreg envOk fun K hK => ?_ | refine AW.region envOk fun K hK => ?_ | refine vcL_nil ?_) | (with_reducible (first | refine vcL_cons fun K' hK' => ?_); simp only [isC, Bool.false_or, Bool.or_true, ↓reduceDIte, List.take_length, Nat.le_refl, List.drop_zero, vGuard, undef, Bool.not_eq_eq_eq_not, dstOk, vcOp, vcF, isPure, putS, vcCall, St.ev, St.put, lk, AVal.ofVal, initS, Nat.reduceLT, true_and, and_true, vBin, vPart, vLoad, vSlice, bnd, AVal.flat, AVal.cell, cellsOk, setRange, ETy.enc, ETy.dec, ETy.sz, ETy.d, cond, Nat.reduceBEq, Nat.reduceAdd, Int.toNat_natCast, List.length_set, List.length_append, List.length_replicate, List.length_take, Nat.reduceSub, Nat.reduceEqDiff, get_loc, setBox_loc, next_eq, List.length_cons, List.length_nil, List.map_cons, List.map_nil, List.append_nil, List.nil_append, List.cons_append, List.set_cons_zero, List.set_cons_succ, getD_zero, getD_succ, List.getElem?_cons_succ, List.getElem?_cons_zero, List.take_succ_cons, List.take_zero, List.drop_succ_cons, List.all_cons, List.all_nil, Bool.and_true, Bool.true_and, Option.bind_some, Option.map_some, Option.map_none, decide_eq_true_eq, decide_eq_false_iff_not, ne_eq, Bool.not_eq_true, Bool.not_eq_false, Decidable.not_not, not_true_eq_false, not_false_eq_true, forall_const, false_implies, Bool.true_eq_false, Bool.false_eq_true, reduceCtorEq, decide_true, decide_false, Bool.not_true, Bool.not_false, if_true, if_false, Nat.zero_add, Nat.lt_irrefl, Value.oneCell', gt_iff_lt, Nat.reduceLeDiff, Nat.lt_add_one, vvar_4, vzero_4, vknd_4, vsn_4, vvar_9, vzero_9, vknd_9, vsn_9, vsl_81, vkn_81, vvar_81, vzero_81, hn']; try simp (disch := omega) only [wrap64]) | (with_reducible refine hK' _ ?_; clear hK' K') | (with_reducible refine hK _ ?_; clear hK K) | ((with_reducible show vCall _ (AVal.fn 47 _) _ _ _); refine vCall_newE (hc (hm.app _)) (by simp only [List.length_append, List.length_cons, List.length_nil, Nat.reduceAdd]; rfl) ?_) | (with_reducible first | refine And.intro (And.intro rfl rfl) ?_ | refine And.intro (by omega) ?_) | (with_reducible refine And.intro (fun hg => ?_) (fun hg => ?_) <;> first | simp only [eq_false hg, rsB] | simp only [eq_true hg, rsB] | simp only [hg, rsB]) | (with_reducible first | refine And.intro rfl (And.intro rfl rfl) | refine thenQ_n ?_ | refine thenQ_exit ?_ | refine thenQ_ret ?_ | refine midQ_ret ?_ | refine midQ_exit ?_ | refine blockQ_same ?_ | refine blockQ_ne (by decide) ?_ | refine blockQ_ret ?_ | refine blockQ_n ?_ | refine AW.exit ?_ | refine AW.block ?_ | refine AW.cond_t rfl ?_ | refine AW.cond_f rfl ?_ | refine AW.cond_dec rfl (fun hc => ?_) (fun hc => ?_)) | (with_reducible refine AW.cond rfl (fun hc => ?_) (fun hc => ?_) <;> try simp only [Bool.not_eq_eq_eq_not, Bool.not_true, Bool.not_false, decide_eq_true_eq, decide_eq_false_iff_not] at hc) | (with_reducible first | refine AW.seq ?_ | refine AW.skip ?_ | refine AW.ret ?_ | refine And.intro ?_ ?_) | (with_reducible intro hg; first | simp only [eq_false hg, rsB] | simp only [eq_true hg, rsB]) | (with_reducible refine retQ_drop ?_; simp only [vRes, packRes, vLoad, vPart, lk, cond, Nat.reduceBEq, get_loc, getD_zero, getD_succ, true_and, List.length_cons, List.length_nil, Nat.reduceAdd, Nat.reduceLT, Nat.reduceLeDiff, List.take_succ_cons, List.take_zero, List.drop_succ_cons, List.drop_zero, vvar_4, vzero_4, vknd_4, vsn_4, vvar_9, vzero_9, vknd_9, vsn_9, vsl_81, vkn_81, vvar_81, vzero_81]) )
  exact ⟨_, _, FinOk.keep [0] (L := [.row false .str P]) hB (by decide) ⟨RenB.plRow rfl, by simp, trivial⟩ (RenV.sl (j := 0) rfl), rfl, rfl⟩
theorem read27_ac (s : ByteArray) (hs : s.size ≤ 1048576) {H : List ABox} (hv : HasVars H) (hm : HasMax H) : AC Tryd.prog 32 [.v (.string (s))] H (RdPost (rdl s) H) := by
  have hpl := ptsS_len 44 s
  have hps := ptsS_size 44 s
  by_cases hn : s = noneS
  · have hr : rdl s = some [] := if_pos hn
    refine AC.enter envOk Tryd.func32 rfl (by decide) Tryd.ntmps32 Tryd.results32 (by simp) fun hB => ?_
    repeat' (first | (with_reducible first | refine AW.sreg envOk fun K hK => ?_ | refine AW.region envOk fun K hK => ?_ | refine vcL_nil ?_) | (with_reducible (first | refine vcL_cons fun K' hK' => ?_); simp only [isC, Bool.false_or, Bool.or_true, vAppend, elems, ↓reduceDIte, List.take_length, Nat.le_refl, List.drop_zero, vGuard, undef, Bool.not_eq_eq_eq_not, dstOk, vcOp, vcF, isPure, putS, vcCall, St.ev, St.put, lk, AVal.ofVal, initS, Nat.reduceLT, true_and, and_true, vBin, vUn, vPick, vPart, vLoad, vIdxA, vExt, vLen, vBuildSl, vSlice, bnd, partsA, fillA, decAll, AVal.flat, AVal.cell, cellsOk, setRange, ETy.enc, ETy.dec, ETy.sz, ETy.d, cond, Nat.reduceBEq, Nat.reduceAdd, Int.toNat_natCast, List.length_set, List.length_append, List.length_replicate, List.length_take, Nat.reduceSub, Nat.reduceEqDiff, get_loc, setBox_loc, next_eq, List.length_cons, List.length_nil, List.map_cons, List.map_nil, List.append_nil, List.nil_append, List.cons_append, List.set_cons_zero, List.set_cons_succ, getD_zero, getD_succ, List.getElem?_cons_succ, List.getElem?_cons_zero, List.take_succ_cons, List.take_zero, List.drop_succ_cons, List.all_cons, List.all_nil, Bool.and_true, Bool.true_and, Option.bind_some, Option.map_some, Option.map_none, decide_eq_true_eq, decide_eq_false_iff_not, ne_eq, Bool.not_eq_true, Bool.not_eq_false, Decidable.not_not, not_true_eq_false, not_false_eq_true, forall_const, false_implies, Bool.true_eq_false, Bool.false_eq_true, reduceCtorEq, decide_true, decide_false, Bool.not_true, Bool.not_false, if_true, if_false, Nat.zero_add, Nat.lt_irrefl, Value.oneCell', gt_iff_lt, Nat.reduceLeDiff, Nat.lt_add_one, vSealSl, vvar_1, vzero_1, vvar_2, vzero_2, vknd_2, vsn_2, vvar_3, vzero_3, vknd_3, vsn_3, vvar_4, vzero_4, vknd_4, vsn_4, vvar_9, vzero_9, vknd_9, vsn_9, vsl_24, vkn_24, vvar_24, vzero_24, vsl_81, vkn_81, vvar_81, vzero_81]; try simp (disch := omega) only [wrap64]) | (with_reducible refine hK' _ ?_; clear hK' K') | (with_reducible refine hK _ ?_; clear hK K) | ((with_reducible show vCall _ (AVal.fn 51 _) _ _ _); refine vCall_pure (parted69n_ac s hn _) ?_) | (with_reducible first | refine And.intro (And.intro rfl rfl) ?_ | refine And.intro (by omega) ?_) | (with_reducible refine And.intro (fun hg => ?_) (fun hg => ?_) <;> first | simp only [eq_false hg, rsB] | simp only [eq_true hg, rsB] | simp only [hg, rsB]) | (with_reducible first | refine And.intro rfl (And.intro rfl rfl) | refine thenQ_n ?_ | refine thenQ_exit ?_ | refine thenQ_ret ?_ | refine midQ_ret ?_ | refine midQ_exit ?_ | refine blockQ_same ?_ | refine blockQ_ne (by decide) ?_ | refine blockQ_ret ?_ | refine blockQ_n ?_ | refine AW.exit ?_ | refine AW.block ?_ | refine AW.cond_t rfl ?_ | refine AW.cond_f rfl ?_ | refine AW.cond_dec rfl (fun hc => ?_) (fun hc => ?_)) | (with_reducible refine AW.cond rfl (fun hc => ?_) (fun hc => ?_) <;> try simp only [Bool.not_eq_eq_eq_not, Bool.not_true, Bool.not_false, decide_eq_true_eq, decide_eq_false_iff_not] at hc) | (with_reducible first | refine AW.seq ?_ | refine AW.skip ?_ | refine AW.ret ?_ | refine And.intro ?_ ?_) | (with_reducible intro hg; first | simp only [eq_false hg, rsB] | simp only [eq_true hg, rsB]) | (with_reducible refine retQ_drop ?_; simp only [vRes, packRes, vLoad, vPart, lk, cond, Nat.reduceBEq, get_loc, getD_zero, getD_succ, true_and, List.length_cons, List.length_nil, Nat.reduceAdd, Nat.reduceLT, Nat.reduceLeDiff, List.take_succ_cons, List.take_zero, List.drop_succ_cons, List.drop_zero, vvar_1, vzero_1, vvar_2, vzero_2, vknd_2, vsn_2, vvar_3, vzero_3, vknd_3, vsn_3, vvar_4, vzero_4, vknd_4, vsn_4, vvar_9, vzero_9, vknd_9, vsn_9, vsl_24, vkn_24, vvar_24, vzero_24, vsl_81, vkn_81, vvar_81, vzero_81]) )
    refine AW.loop (fun i : Nat => (⟨35, [(4, .sl 1 (H.length + 0) 0 (0)), (11, .v (.slice none 0 0)), (12, .v (.int .i64 (0))), (13, .v (.int .i64 (0)))], H, [.row false (.int .i64) []]⟩ : St)) (fun _ => True) (fun i => 0) 0 trivial (Weak.slots (by repeat' first | exact trivial | exact ⟨rfl, trivial⟩ | refine ⟨rfl, ?_⟩)) ?_
    intro i _
    repeat' (first | (with_reducible first | refine AW.sreg envOk fun K hK => ?_ | refine AW.region envOk fun K hK => ?_ | refine vcL_nil ?_) | (with_reducible (first | refine vcL_cons fun K' hK' => ?_); simp only [isC, Bool.false_or, Bool.or_true, vAppend, elems, ↓reduceDIte, List.take_length, Nat.le_refl, List.drop_zero, vGuard, undef, Bool.not_eq_eq_eq_not, dstOk, vcOp, vcF, isPure, putS, vcCall, St.ev, St.put, lk, AVal.ofVal, initS, Nat.reduceLT, true_and, and_true, vBin, vUn, vPick, vPart, vLoad, vIdxA, vExt, vLen, vBuildSl, vSlice, bnd, partsA, fillA, decAll, AVal.flat, AVal.cell, cellsOk, setRange, ETy.enc, ETy.dec, ETy.sz, ETy.d, cond, Nat.reduceBEq, Nat.reduceAdd, Int.toNat_natCast, List.length_set, List.length_append, List.length_replicate, List.length_take, Nat.reduceSub, Nat.reduceEqDiff, get_loc, setBox_loc, next_eq, List.length_cons, List.length_nil, List.map_cons, List.map_nil, List.append_nil, List.nil_append, List.cons_append, List.set_cons_zero, List.set_cons_succ, getD_zero, getD_succ, List.getElem?_cons_succ, List.getElem?_cons_zero, List.take_succ_cons, List.take_zero, List.drop_succ_cons, List.all_cons, List.all_nil, Bool.and_true, Bool.true_and, Option.bind_some, Option.map_some, Option.map_none, decide_eq_true_eq, decide_eq_false_iff_not, ne_eq, Bool.not_eq_true, Bool.not_eq_false, Decidable.not_not, not_true_eq_false, not_false_eq_true, forall_const, false_implies, Bool.true_eq_false, Bool.false_eq_true, reduceCtorEq, decide_true, decide_false, Bool.not_true, Bool.not_false, if_true, if_false, Nat.zero_add, Nat.lt_irrefl, Value.oneCell', gt_iff_lt, Nat.reduceLeDiff, Nat.lt_add_one, vSealSl, vvar_1, vzero_1, vvar_2, vzero_2, vknd_2, vsn_2, vvar_3, vzero_3, vknd_3, vsn_3, vvar_4, vzero_4, vknd_4, vsn_4, vvar_9, vzero_9, vknd_9, vsn_9, vsl_24, vkn_24, vvar_24, vzero_24, vsl_81, vkn_81, vvar_81, vzero_81]; try simp (disch := omega) only [wrap64]) | (with_reducible refine hK' _ ?_; clear hK' K') | (with_reducible refine hK _ ?_; clear hK K) | (with_reducible first | refine And.intro (And.intro rfl rfl) ?_ | refine And.intro (by omega) ?_) | (with_reducible refine And.intro (fun hg => ?_) (fun hg => ?_) <;> first | simp only [eq_false hg, rsB] | simp only [eq_true hg, rsB] | simp only [hg, rsB]) | (with_reducible first | refine And.intro rfl (And.intro rfl rfl) | refine thenQ_n ?_ | refine thenQ_exit ?_ | refine thenQ_ret ?_ | refine midQ_ret ?_ | refine midQ_exit ?_ | refine blockQ_same ?_ | refine blockQ_ne (by decide) ?_ | refine blockQ_ret ?_ | refine blockQ_n ?_ | refine AW.exit ?_ | refine AW.block ?_ | refine AW.cond_t rfl ?_ | refine AW.cond_f rfl ?_ | refine AW.cond_dec rfl (fun hc => ?_) (fun hc => ?_)) | (with_reducible refine AW.cond rfl (fun hc => ?_) (fun hc => ?_) <;> try simp only [Bool.not_eq_eq_eq_not, Bool.not_true, Bool.not_false, decide_eq_true_eq, decide_eq_false_iff_not] at hc) | (with_reducible first | refine AW.seq ?_ | refine AW.skip ?_ | refine AW.ret ?_ | refine And.intro ?_ ?_) | (with_reducible intro hg; first | simp only [eq_false hg, rsB] | simp only [eq_true hg, rsB]) | (with_reducible refine retQ_drop ?_; simp only [vRes, packRes, vLoad, vPart, lk, cond, Nat.reduceBEq, get_loc, getD_zero, getD_succ, true_and, List.length_cons, List.length_nil, Nat.reduceAdd, Nat.reduceLT, Nat.reduceLeDiff, List.take_succ_cons, List.take_zero, List.drop_succ_cons, List.drop_zero, vvar_1, vzero_1, vvar_2, vzero_2, vknd_2, vsn_2, vvar_3, vzero_3, vknd_3, vsn_3, vvar_4, vzero_4, vknd_4, vsn_4, vvar_9, vzero_9, vknd_9, vsn_9, vsl_24, vkn_24, vvar_24, vzero_24, vsl_81, vkn_81, vvar_81, vzero_81]) )
    all_goals first
      | (exfalso; omega)
      | exact ⟨_, _, FinOk.keep [0] (L := [.row false (.int .i64) []]) hB (by decide) ⟨RenB.plRow rfl, by simp, trivial⟩ (RenV.tupL (cs' := [.sl 1 (H.length + 0) 0 0, .v (.bool (true))]) ⟨RenV.sl (j := 0) rfl, RenV.low (.v _), trivial⟩), .inl ⟨[], hr, rfl, rfl⟩⟩
      | fail
  · have hr : rdl s = if (ptsS 44 s).length ≤ 60 then rdTo (ptsS 44 s) (ptsS 44 s).length else none := if_neg hn
    have hc := fun {H : List ABox} (hm : HasMax H) => parted69_ac s hs hn hm
    generalize ptsS 44 s = P at hpl hps hr hc
    refine AC.enter envOk Tryd.func32 rfl (by decide) Tryd.ntmps32 Tryd.results32 (by simp) fun hB => ?_
    repeat' (first | (with_reducible first | refine AW.sreg envOk fun K hK => ?_ | refine AW.region envOk fun K hK => ?_ | refine vcL_nil ?_) | (with_reducible (first | refine vcL_cons fun K' hK' => ?_); simp only [isC, Bool.false_or, Bool.or_true, vAppend, elems, ↓reduceDIte, List.take_length, Nat.le_refl, List.drop_zero, vGuard, undef, Bool.not_eq_eq_eq_not, dstOk, vcOp, vcF, isPure, putS, vcCall, St.ev, St.put, lk, AVal.ofVal, initS, Nat.reduceLT, true_and, and_true, vBin, vUn, vPick, vPart, vLoad, vIdxA, vExt, vLen, vBuildSl, vSlice, bnd, partsA, fillA, decAll, AVal.flat, AVal.cell, cellsOk, setRange, ETy.enc, ETy.dec, ETy.sz, ETy.d, cond, Nat.reduceBEq, Nat.reduceAdd, Int.toNat_natCast, List.length_set, List.length_append, List.length_replicate, List.length_take, Nat.reduceSub, Nat.reduceEqDiff, get_loc, setBox_loc, next_eq, List.length_cons, List.length_nil, List.map_cons, List.map_nil, List.append_nil, List.nil_append, List.cons_append, List.set_cons_zero, List.set_cons_succ, getD_zero, getD_succ, List.getElem?_cons_succ, List.getElem?_cons_zero, List.take_succ_cons, List.take_zero, List.drop_succ_cons, List.all_cons, List.all_nil, Bool.and_true, Bool.true_and, Option.bind_some, Option.map_some, Option.map_none, decide_eq_true_eq, decide_eq_false_iff_not, ne_eq, Bool.not_eq_true, Bool.not_eq_false, Decidable.not_not, not_true_eq_false, not_false_eq_true, forall_const, false_implies, Bool.true_eq_false, Bool.false_eq_true, reduceCtorEq, decide_true, decide_false, Bool.not_true, Bool.not_false, if_true, if_false, Nat.zero_add, Nat.lt_irrefl, Value.oneCell', gt_iff_lt, Nat.reduceLeDiff, Nat.lt_add_one, vSealSl, vvar_1, vzero_1, vvar_2, vzero_2, vknd_2, vsn_2, vvar_3, vzero_3, vknd_3, vsn_3, vvar_4, vzero_4, vknd_4, vsn_4, vvar_9, vzero_9, vknd_9, vsn_9, vsl_24, vkn_24, vvar_24, vzero_24, vsl_81, vkn_81, vvar_81, vzero_81]; try simp (disch := omega) only [wrap64]) | (with_reducible refine hK' _ ?_; clear hK' K') | (with_reducible refine hK _ ?_; clear hK K) | ((with_reducible show vCall _ (AVal.fn 51 _) _ _ _); refine vCall_newE (hc (hm.app _)) (by simp only [List.length_append, List.length_cons, List.length_nil, Nat.reduceAdd]; rfl) ?_) | (with_reducible first | refine And.intro (And.intro rfl rfl) ?_ | refine And.intro (by omega) ?_) | (with_reducible refine And.intro (fun hg => ?_) (fun hg => ?_) <;> first | simp only [eq_false hg, rsB] | simp only [eq_true hg, rsB] | simp only [hg, rsB]) | (with_reducible first | refine And.intro rfl (And.intro rfl rfl) | refine thenQ_n ?_ | refine thenQ_exit ?_ | refine thenQ_ret ?_ | refine midQ_ret ?_ | refine midQ_exit ?_ | refine blockQ_same ?_ | refine blockQ_ne (by decide) ?_ | refine blockQ_ret ?_ | refine blockQ_n ?_ | refine AW.exit ?_ | refine AW.block ?_ | refine AW.cond_t rfl ?_ | refine AW.cond_f rfl ?_ | refine AW.cond_dec rfl (fun hc => ?_) (fun hc => ?_)) | (with_reducible refine AW.cond rfl (fun hc => ?_) (fun hc => ?_) <;> try simp only [Bool.not_eq_eq_eq_not, Bool.not_true, Bool.not_false, decide_eq_true_eq, decide_eq_false_iff_not] at hc) | (with_reducible first | refine AW.seq ?_ | refine AW.skip ?_ | refine AW.ret ?_ | refine And.intro ?_ ?_) | (with_reducible intro hg; first | simp only [eq_false hg, rsB] | simp only [eq_true hg, rsB]) | (with_reducible refine retQ_drop ?_; simp only [vRes, packRes, vLoad, vPart, lk, cond, Nat.reduceBEq, get_loc, getD_zero, getD_succ, true_and, List.length_cons, List.length_nil, Nat.reduceAdd, Nat.reduceLT, Nat.reduceLeDiff, List.take_succ_cons, List.take_zero, List.drop_succ_cons, List.drop_zero, vvar_1, vzero_1, vvar_2, vzero_2, vknd_2, vsn_2, vvar_3, vzero_3, vknd_3, vsn_3, vvar_4, vzero_4, vknd_4, vsn_4, vvar_9, vzero_9, vknd_9, vsn_9, vsl_24, vkn_24, vvar_24, vzero_24, vsl_81, vkn_81, vvar_81, vzero_81]) )
    refine AW.loop (fun z : Nat × List Int => (⟨35, [(4, .sl 1 (H.length + 0) 0 (z.2.length)), (11, .sl 1 (H.length + 1) 0 (P.length)), (12, .v (.int .i64 ((P.length : Int)))), (13, .v (.int .i64 ((z.1 : Int))))], H, [.row false (.int .i64) (z.2), .row false .str P]⟩ : St)) (fun z => z.1 ≤ P.length ∧ z.1 ≤ 60 ∧ rdTo P z.1 = some z.2) (fun z => P.length - z.1) (0, []) ⟨Nat.zero_le _, Nat.zero_le _, rfl⟩ (Weak.slots (by repeat' first | exact trivial | exact ⟨rfl, trivial⟩ | refine ⟨rfl, ?_⟩)) ?_
    intro ⟨i, out⟩ ⟨hi, hi6, hI⟩
    simp only at hi hi6 hI ⊢
    have hol := rdTo_len hI
    have hps' := hps i
    by_cases hlt : i < P.length
    · cases hrd : rd (P.getD i ByteArray.empty) with
      | none =>
        have hr2 : rdl s = none := by
          rw [hr]
          split
          · exact rdTo_stop hI hrd hlt
          · rfl
        repeat' (first | (with_reducible first | refine AW.sreg envOk fun K hK => ?_ | refine AW.region envOk fun K hK => ?_ | refine vcL_nil ?_) | (with_reducible (first | refine vcL_cons fun K' hK' => ?_); simp only [isC, Bool.false_or, Bool.or_true, vAppend, elems, ↓reduceDIte, List.take_length, Nat.le_refl, List.drop_zero, vGuard, undef, Bool.not_eq_eq_eq_not, dstOk, vcOp, vcF, isPure, putS, vcCall, St.ev, St.put, lk, AVal.ofVal, initS, Nat.reduceLT, true_and, and_true, vBin, vUn, vPick, vPart, vLoad, vIdxA, vExt, vLen, vBuildSl, vSlice, bnd, partsA, fillA, decAll, AVal.flat, AVal.cell, cellsOk, setRange, ETy.enc, ETy.dec, ETy.sz, ETy.d, cond, Nat.reduceBEq, Nat.reduceAdd, Int.toNat_natCast, List.length_set, List.length_append, List.length_replicate, List.length_take, Nat.reduceSub, Nat.reduceEqDiff, get_loc, setBox_loc, next_eq, List.length_cons, List.length_nil, List.map_cons, List.map_nil, List.append_nil, List.nil_append, List.cons_append, List.set_cons_zero, List.set_cons_succ, getD_zero, getD_succ, List.getElem?_cons_succ, List.getElem?_cons_zero, List.take_succ_cons, List.take_zero, List.drop_succ_cons, List.all_cons, List.all_nil, Bool.and_true, Bool.true_and, Option.bind_some, Option.map_some, Option.map_none, decide_eq_true_eq, decide_eq_false_iff_not, ne_eq, Bool.not_eq_true, Bool.not_eq_false, Decidable.not_not, not_true_eq_false, not_false_eq_true, forall_const, false_implies, Bool.true_eq_false, Bool.false_eq_true, reduceCtorEq, decide_true, decide_false, Bool.not_true, Bool.not_false, if_true, if_false, Nat.zero_add, Nat.lt_irrefl, Value.oneCell', gt_iff_lt, Nat.reduceLeDiff, Nat.lt_add_one, vSealSl, vvar_1, vzero_1, vvar_2, vzero_2, vknd_2, vsn_2, vvar_3, vzero_3, vknd_3, vsn_3, vvar_4, vzero_4, vknd_4, vsn_4, vvar_9, vzero_9, vknd_9, vsn_9, vsl_24, vkn_24, vvar_24, vzero_24, vsl_81, vkn_81, vvar_81, vzero_81, hrd, Option.isSome_none]; try simp (disch := omega) only [wrap64]) | (with_reducible refine hK' _ ?_; clear hK' K') | (with_reducible refine hK _ ?_; clear hK K) | ((with_reducible show vCall _ (AVal.fn 52 _) _ _ _); refine vCall_pure (read16_ac _ (by omega) (hv.app _)) ?_) | (with_reducible first | refine And.intro (And.intro rfl rfl) ?_ | refine And.intro (by omega) ?_) | (with_reducible refine And.intro (fun hg => ?_) (fun hg => ?_) <;> first | simp only [eq_false hg, rsB] | simp only [eq_true hg, rsB] | simp only [hg, rsB]) | (with_reducible first | refine And.intro rfl (And.intro rfl rfl) | refine thenQ_n ?_ | refine thenQ_exit ?_ | refine thenQ_ret ?_ | refine midQ_ret ?_ | refine midQ_exit ?_ | refine blockQ_same ?_ | refine blockQ_ne (by decide) ?_ | refine blockQ_ret ?_ | refine blockQ_n ?_ | refine AW.exit ?_ | refine AW.block ?_ | refine AW.cond_t rfl ?_ | refine AW.cond_f rfl ?_ | refine AW.cond_dec rfl (fun hc => ?_) (fun hc => ?_)) | (with_reducible refine AW.cond rfl (fun hc => ?_) (fun hc => ?_) <;> try simp only [Bool.not_eq_eq_eq_not, Bool.not_true, Bool.not_false, decide_eq_true_eq, decide_eq_false_iff_not] at hc) | (with_reducible first | refine AW.seq ?_ | refine AW.skip ?_ | refine AW.ret ?_ | refine And.intro ?_ ?_) | (with_reducible intro hg; first | simp only [eq_false hg, rsB] | simp only [eq_true hg, rsB]) | (with_reducible refine retQ_drop ?_; simp only [vRes, packRes, vLoad, vPart, lk, cond, Nat.reduceBEq, get_loc, getD_zero, getD_succ, true_and, List.length_cons, List.length_nil, Nat.reduceAdd, Nat.reduceLT, Nat.reduceLeDiff, List.take_succ_cons, List.take_zero, List.drop_succ_cons, List.drop_zero, vvar_1, vzero_1, vvar_2, vzero_2, vknd_2, vsn_2, vvar_3, vzero_3, vknd_3, vsn_3, vvar_4, vzero_4, vknd_4, vsn_4, vvar_9, vzero_9, vknd_9, vsn_9, vsl_24, vkn_24, vvar_24, vzero_24, vsl_81, vkn_81, vvar_81, vzero_81]) )
        all_goals first
          | (exfalso; omega)
          | exact ⟨_, _, FinOk.drop hB (Plain.tup (plain_cons (.v _) (plain_cons (.v _) plain_nil))).ids, .inr ⟨hr2, rfl, rfl⟩⟩
          | fail
      | some n =>
        by_cases h60 : i = 60
        · have hr2 : rdl s = none := by
            rw [hr, if_neg (by omega)]
          repeat' (first | (with_reducible first | refine AW.sreg envOk fun K hK => ?_ | refine AW.region envOk fun K hK => ?_ | refine vcL_nil ?_) | (with_reducible (first | refine vcL_cons fun K' hK' => ?_); simp only [isC, Bool.false_or, Bool.or_true, vAppend, elems, ↓reduceDIte, List.take_length, Nat.le_refl, List.drop_zero, vGuard, undef, Bool.not_eq_eq_eq_not, dstOk, vcOp, vcF, isPure, putS, vcCall, St.ev, St.put, lk, AVal.ofVal, initS, Nat.reduceLT, true_and, and_true, vBin, vUn, vPick, vPart, vLoad, vIdxA, vExt, vLen, vBuildSl, vSlice, bnd, partsA, fillA, decAll, AVal.flat, AVal.cell, cellsOk, setRange, ETy.enc, ETy.dec, ETy.sz, ETy.d, cond, Nat.reduceBEq, Nat.reduceAdd, Int.toNat_natCast, List.length_set, List.length_append, List.length_replicate, List.length_take, Nat.reduceSub, Nat.reduceEqDiff, get_loc, setBox_loc, next_eq, List.length_cons, List.length_nil, List.map_cons, List.map_nil, List.append_nil, List.nil_append, List.cons_append, List.set_cons_zero, List.set_cons_succ, getD_zero, getD_succ, List.getElem?_cons_succ, List.getElem?_cons_zero, List.take_succ_cons, List.take_zero, List.drop_succ_cons, List.all_cons, List.all_nil, Bool.and_true, Bool.true_and, Option.bind_some, Option.map_some, Option.map_none, decide_eq_true_eq, decide_eq_false_iff_not, ne_eq, Bool.not_eq_true, Bool.not_eq_false, Decidable.not_not, not_true_eq_false, not_false_eq_true, forall_const, false_implies, Bool.true_eq_false, Bool.false_eq_true, reduceCtorEq, decide_true, decide_false, Bool.not_true, Bool.not_false, if_true, if_false, Nat.zero_add, Nat.lt_irrefl, Value.oneCell', gt_iff_lt, Nat.reduceLeDiff, Nat.lt_add_one, vSealSl, vvar_1, vzero_1, vvar_2, vzero_2, vknd_2, vsn_2, vvar_3, vzero_3, vknd_3, vsn_3, vvar_4, vzero_4, vknd_4, vsn_4, vvar_9, vzero_9, vknd_9, vsn_9, vsl_24, vkn_24, vvar_24, vzero_24, vsl_81, vkn_81, vvar_81, vzero_81, hrd, Option.isSome_some, Option.getD_some]; try simp (disch := omega) only [wrap64]) | (with_reducible refine hK' _ ?_; clear hK' K') | (with_reducible refine hK _ ?_; clear hK K) | ((with_reducible show vCall _ (AVal.fn 52 _) _ _ _); refine vCall_pure (read16_ac _ (by omega) (hv.app _)) ?_) | (with_reducible first | refine And.intro (And.intro rfl rfl) ?_ | refine And.intro (by omega) ?_) | (with_reducible refine And.intro (fun hg => ?_) (fun hg => ?_) <;> first | simp only [eq_false hg, rsB] | simp only [eq_true hg, rsB] | simp only [hg, rsB]) | (with_reducible first | refine And.intro rfl (And.intro rfl rfl) | refine thenQ_n ?_ | refine thenQ_exit ?_ | refine thenQ_ret ?_ | refine midQ_ret ?_ | refine midQ_exit ?_ | refine blockQ_same ?_ | refine blockQ_ne (by decide) ?_ | refine blockQ_ret ?_ | refine blockQ_n ?_ | refine AW.exit ?_ | refine AW.block ?_ | refine AW.cond_t rfl ?_ | refine AW.cond_f rfl ?_ | refine AW.cond_dec rfl (fun hc => ?_) (fun hc => ?_)) | (with_reducible refine AW.cond rfl (fun hc => ?_) (fun hc => ?_) <;> try simp only [Bool.not_eq_eq_eq_not, Bool.not_true, Bool.not_false, decide_eq_true_eq, decide_eq_false_iff_not] at hc) | (with_reducible first | refine AW.seq ?_ | refine AW.skip ?_ | refine AW.ret ?_ | refine And.intro ?_ ?_) | (with_reducible intro hg; first | simp only [eq_false hg, rsB] | simp only [eq_true hg, rsB]) | (with_reducible refine retQ_drop ?_; simp only [vRes, packRes, vLoad, vPart, lk, cond, Nat.reduceBEq, get_loc, getD_zero, getD_succ, true_and, List.length_cons, List.length_nil, Nat.reduceAdd, Nat.reduceLT, Nat.reduceLeDiff, List.take_succ_cons, List.take_zero, List.drop_succ_cons, List.drop_zero, vvar_1, vzero_1, vvar_2, vzero_2, vknd_2, vsn_2, vvar_3, vzero_3, vknd_3, vsn_3, vvar_4, vzero_4, vknd_4, vsn_4, vvar_9, vzero_9, vknd_9, vsn_9, vsl_24, vkn_24, vvar_24, vzero_24, vsl_81, vkn_81, vvar_81, vzero_81]) )
          all_goals first
            | (exfalso; omega)
            | exact ⟨_, _, FinOk.drop hB (Plain.tup (plain_cons (.v _) (plain_cons (.v _) plain_nil))).ids, .inr ⟨hr2, rfl, rfl⟩⟩
            | fail
        ·
          repeat' (first | (with_reducible first | refine AW.sreg envOk fun K hK => ?_ | refine AW.region envOk fun K hK => ?_ | refine vcL_nil ?_) | (with_reducible (first | refine vcL_cons fun K' hK' => ?_); simp only [isC, Bool.false_or, Bool.or_true, vAppend, elems, ↓reduceDIte, List.take_length, Nat.le_refl, List.drop_zero, vGuard, undef, Bool.not_eq_eq_eq_not, dstOk, vcOp, vcF, isPure, putS, vcCall, St.ev, St.put, lk, AVal.ofVal, initS, Nat.reduceLT, true_and, and_true, vBin, vUn, vPick, vPart, vLoad, vIdxA, vExt, vLen, vBuildSl, vSlice, bnd, partsA, fillA, decAll, AVal.flat, AVal.cell, cellsOk, setRange, ETy.enc, ETy.dec, ETy.sz, ETy.d, cond, Nat.reduceBEq, Nat.reduceAdd, Int.toNat_natCast, List.length_set, List.length_append, List.length_replicate, List.length_take, Nat.reduceSub, Nat.reduceEqDiff, get_loc, setBox_loc, next_eq, List.length_cons, List.length_nil, List.map_cons, List.map_nil, List.append_nil, List.nil_append, List.cons_append, List.set_cons_zero, List.set_cons_succ, getD_zero, getD_succ, List.getElem?_cons_succ, List.getElem?_cons_zero, List.take_succ_cons, List.take_zero, List.drop_succ_cons, List.all_cons, List.all_nil, Bool.and_true, Bool.true_and, Option.bind_some, Option.map_some, Option.map_none, decide_eq_true_eq, decide_eq_false_iff_not, ne_eq, Bool.not_eq_true, Bool.not_eq_false, Decidable.not_not, not_true_eq_false, not_false_eq_true, forall_const, false_implies, Bool.true_eq_false, Bool.false_eq_true, reduceCtorEq, decide_true, decide_false, Bool.not_true, Bool.not_false, if_true, if_false, Nat.zero_add, Nat.lt_irrefl, Value.oneCell', gt_iff_lt, Nat.reduceLeDiff, Nat.lt_add_one, vSealSl, vvar_1, vzero_1, vvar_2, vzero_2, vknd_2, vsn_2, vvar_3, vzero_3, vknd_3, vsn_3, vvar_4, vzero_4, vknd_4, vsn_4, vvar_9, vzero_9, vknd_9, vsn_9, vsl_24, vkn_24, vvar_24, vzero_24, vsl_81, vkn_81, vvar_81, vzero_81, hrd, Option.isSome_some, Option.getD_some]; try simp (disch := omega) only [wrap64]) | (with_reducible refine hK' _ ?_; clear hK' K') | (with_reducible refine hK _ ?_; clear hK K) | ((with_reducible show vCall _ (AVal.fn 52 _) _ _ _); refine vCall_pure (read16_ac _ (by omega) (hv.app _)) ?_) | (with_reducible first | refine And.intro (And.intro rfl rfl) ?_ | refine And.intro (by omega) ?_) | (with_reducible refine And.intro (fun hg => ?_) (fun hg => ?_) <;> first | simp only [eq_false hg, rsB] | simp only [eq_true hg, rsB] | simp only [hg, rsB]) | (with_reducible first | refine And.intro rfl (And.intro rfl rfl) | refine thenQ_n ?_ | refine thenQ_exit ?_ | refine thenQ_ret ?_ | refine midQ_ret ?_ | refine midQ_exit ?_ | refine blockQ_same ?_ | refine blockQ_ne (by decide) ?_ | refine blockQ_ret ?_ | refine blockQ_n ?_ | refine AW.exit ?_ | refine AW.block ?_ | refine AW.cond_t rfl ?_ | refine AW.cond_f rfl ?_ | refine AW.cond_dec rfl (fun hc => ?_) (fun hc => ?_)) | (with_reducible refine AW.cond rfl (fun hc => ?_) (fun hc => ?_) <;> try simp only [Bool.not_eq_eq_eq_not, Bool.not_true, Bool.not_false, decide_eq_true_eq, decide_eq_false_iff_not] at hc) | (with_reducible first | refine AW.seq ?_ | refine AW.skip ?_ | refine AW.ret ?_ | refine And.intro ?_ ?_) | (with_reducible intro hg; first | simp only [eq_false hg, rsB] | simp only [eq_true hg, rsB]) | (with_reducible refine retQ_drop ?_; simp only [vRes, packRes, vLoad, vPart, lk, cond, Nat.reduceBEq, get_loc, getD_zero, getD_succ, true_and, List.length_cons, List.length_nil, Nat.reduceAdd, Nat.reduceLT, Nat.reduceLeDiff, List.take_succ_cons, List.take_zero, List.drop_succ_cons, List.drop_zero, vvar_1, vzero_1, vvar_2, vzero_2, vknd_2, vsn_2, vvar_3, vzero_3, vknd_3, vsn_3, vvar_4, vzero_4, vknd_4, vsn_4, vvar_9, vzero_9, vknd_9, vsn_9, vsl_24, vkn_24, vvar_24, vzero_24, vsl_81, vkn_81, vvar_81, vzero_81]) )
          all_goals first
            | (exfalso; omega)
            | (refine ⟨(i + 1, out ++ [n]), ⟨by simp only; omega, by simp only; omega, rdTo_step hI hrd⟩, by simp only; omega, ?_⟩
               simp only
               rw [List.length_append]
               exact (Weak.sel [3, 1] hB (by decide) (by (repeat' (first | exact trivial | exact RenB.plRow rfl | exact RenB.dead _ | exact RenB.map _ _ | exact RenB.iter rfl | refine And.intro ?_ ?_ | (refine RenB.plBox ?_; (repeat' (first | exact Pl.v _ | exact Pl.junk | exact Pl.rd rfl _ | exact pl_nil | refine pl_cons ?_ ?_ | refine Pl.agg ?_ | refine Pl.tup ?_ | refine Pl.rp ?_ | refine Pl.fn ?_)); (first | done | fail)) | refine RenB.of ?_ | exact RenV.ptr rfl | exact RenV.sl rfl | exact RenV.mp rfl | exact RenV.it rfl | exact RenV.low (IdsLt.mp (by assumption)) | (refine RenV.pl ?_; (repeat' (first | exact Pl.v _ | exact Pl.junk | exact Pl.rd rfl _ | exact pl_nil | refine pl_cons ?_ ?_ | refine Pl.agg ?_ | refine Pl.tup ?_ | refine Pl.rp ?_ | refine Pl.fn ?_)); (first | done | fail)) | refine RenV.aggL ?_ | refine RenV.fnL ?_ | exact Nat.lt_of_sub_pos (by decide) | (simp; (first | done | fail)))); (first | done | fail)) (by (repeat' (first | exact trivial | exact RenV.ptr rfl | exact RenV.sl rfl | exact RenV.mp rfl | exact RenV.it rfl | exact RenV.low (IdsLt.mp (by assumption)) | exact RenV.low (.v _) | exact RenV.low (IdsLt.ptr (by assumption)) | (refine RenV.pl ?_; (repeat' (first | exact Pl.v _ | exact Pl.junk | exact Pl.rd rfl _ | exact pl_nil | refine pl_cons ?_ ?_ | refine Pl.agg ?_ | refine Pl.tup ?_ | refine Pl.rp ?_ | refine Pl.fn ?_)); (first | done | fail)) | refine RenV.fnL ?_ | refine RenV.aggL ?_ | refine And.intro ?_ ?_)); (first | done | fail))))
            | fail
    · obtain rfl : i = P.length := by omega
      have hr2 : rdl s = some out := by rw [hr, if_pos (by omega), hI]
      repeat' (first | (with_reducible first | refine AW.sreg envOk fun K hK => ?_ | refine AW.region envOk fun K hK => ?_ | refine vcL_nil ?_) | (with_reducible (first | refine vcL_cons fun K' hK' => ?_); simp only [isC, Bool.false_or, Bool.or_true, vAppend, elems, ↓reduceDIte, List.take_length, Nat.le_refl, List.drop_zero, vGuard, undef, Bool.not_eq_eq_eq_not, dstOk, vcOp, vcF, isPure, putS, vcCall, St.ev, St.put, lk, AVal.ofVal, initS, Nat.reduceLT, true_and, and_true, vBin, vUn, vPick, vPart, vLoad, vIdxA, vExt, vLen, vBuildSl, vSlice, bnd, partsA, fillA, decAll, AVal.flat, AVal.cell, cellsOk, setRange, ETy.enc, ETy.dec, ETy.sz, ETy.d, cond, Nat.reduceBEq, Nat.reduceAdd, Int.toNat_natCast, List.length_set, List.length_append, List.length_replicate, List.length_take, Nat.reduceSub, Nat.reduceEqDiff, get_loc, setBox_loc, next_eq, List.length_cons, List.length_nil, List.map_cons, List.map_nil, List.append_nil, List.nil_append, List.cons_append, List.set_cons_zero, List.set_cons_succ, getD_zero, getD_succ, List.getElem?_cons_succ, List.getElem?_cons_zero, List.take_succ_cons, List.take_zero, List.drop_succ_cons, List.all_cons, List.all_nil, Bool.and_true, Bool.true_and, Option.bind_some, Option.map_some, Option.map_none, decide_eq_true_eq, decide_eq_false_iff_not, ne_eq, Bool.not_eq_true, Bool.not_eq_false, Decidable.not_not, not_true_eq_false, not_false_eq_true, forall_const, false_implies, Bool.true_eq_false, Bool.false_eq_true, reduceCtorEq, decide_true, decide_false, Bool.not_true, Bool.not_false, if_true, if_false, Nat.zero_add, Nat.lt_irrefl, Value.oneCell', gt_iff_lt, Nat.reduceLeDiff, Nat.lt_add_one, vSealSl, vvar_1, vzero_1, vvar_2, vzero_2, vknd_2, vsn_2, vvar_3, vzero_3, vknd_3, vsn_3, vvar_4, vzero_4, vknd_4, vsn_4, vvar_9, vzero_9, vknd_9, vsn_9, vsl_24, vkn_24, vvar_24, vzero_24, vsl_81, vkn_81, vvar_81, vzero_81]; try simp (disch := omega) only [wrap64]) | (with_reducible refine hK' _ ?_; clear hK' K') | (with_reducible refine hK _ ?_; clear hK K) | (with_reducible first | refine And.intro (And.intro rfl rfl) ?_ | refine And.intro (by omega) ?_) | (with_reducible refine And.intro (fun hg => ?_) (fun hg => ?_) <;> first | simp only [eq_false hg, rsB] | simp only [eq_true hg, rsB] | simp only [hg, rsB]) | (with_reducible first | refine And.intro rfl (And.intro rfl rfl) | refine thenQ_n ?_ | refine thenQ_exit ?_ | refine thenQ_ret ?_ | refine midQ_ret ?_ | refine midQ_exit ?_ | refine blockQ_same ?_ | refine blockQ_ne (by decide) ?_ | refine blockQ_ret ?_ | refine blockQ_n ?_ | refine AW.exit ?_ | refine AW.block ?_ | refine AW.cond_t rfl ?_ | refine AW.cond_f rfl ?_ | refine AW.cond_dec rfl (fun hc => ?_) (fun hc => ?_)) | (with_reducible refine AW.cond rfl (fun hc => ?_) (fun hc => ?_) <;> try simp only [Bool.not_eq_eq_eq_not, Bool.not_true, Bool.not_false, decide_eq_true_eq, decide_eq_false_iff_not] at hc) | (with_reducible first | refine AW.seq ?_ | refine AW.skip ?_ | refine AW.ret ?_ | refine And.intro ?_ ?_) | (with_reducible intro hg; first | simp only [eq_false hg, rsB] | simp only [eq_true hg, rsB]) | (with_reducible refine retQ_drop ?_; simp only [vRes, packRes, vLoad, vPart, lk, cond, Nat.reduceBEq, get_loc, getD_zero, getD_succ, true_and, List.length_cons, List.length_nil, Nat.reduceAdd, Nat.reduceLT, Nat.reduceLeDiff, List.take_succ_cons, List.take_zero, List.drop_succ_cons, List.drop_zero, vvar_1, vzero_1, vvar_2, vzero_2, vknd_2, vsn_2, vvar_3, vzero_3, vknd_3, vsn_3, vvar_4, vzero_4, vknd_4, vsn_4, vvar_9, vzero_9, vknd_9, vsn_9, vsl_24, vkn_24, vvar_24, vzero_24, vsl_81, vkn_81, vvar_81, vzero_81]) )
      all_goals first
        | (exfalso; omega)
        | exact ⟨_, _, FinOk.keep [0] (L := [.row false (.int .i64) out]) hB (by decide) ⟨RenB.plRow rfl, by simp, trivial⟩ (RenV.tupL (cs' := [.sl 1 (H.length + 0) 0 out.length, .v (.bool (true))]) ⟨RenV.sl (j := 0) rfl, RenV.low (.v _), trivial⟩), .inl ⟨out, hr2, rfl, rfl⟩⟩
        | fail
theorem RdPost.some_ {o : Option (List Int)} {xs : List Int} (h : o = some xs) {H : List ABox} {r : AVal} {H' : List ABox} (hp : RdPost o H r H') : r = .tup [.sl 1 H.length 0 xs.length, .v (.bool (true))] ∧ H' = H ++ [.row false (.int .i64) xs] := by
  rcases hp with ⟨ys, h1, h2, h3⟩ | ⟨h1, _, _⟩
  · rw [h] at h1; cases h1; exact ⟨h2, h3⟩
  · rw [h] at h1; cases h1
theorem read27v_ac (s : ByteArray) (hs : s.size ≤ 1048576) {xs : List Int} (h : rdl s = some xs) {H : List ABox} (hv : HasVars H) (hm : HasMax H) : AC Tryd.prog 32 [.v (.string (s))] H (fun r H' => r = .tup [.sl 1 H.length 0 xs.length, .v (.bool (true))] ∧ H' = H ++ [.row false (.int .i64) xs]) := (read27_ac s hs hv hm).mono fun _ _ => RdPost.some_ h
end Go.Proofs.YtmkcahfhnehanaaDoor
end
section
set_option linter.unusedSimpArgs false
set_option linter.unusedVariables false
set_option maxHeartbeats 1000000
namespace Go.Proofs.YtmkcahfhnehanaaDoor
open Go.Lib Go.Eng
theorem cutM_ac (s : ByteArray) (hs : s.size ≤ 1048576) (m : UInt8) {H : List ABox} (hm : HasMax H) : AC Tryd.prog 31 [.v (.string (s)), .v (.string (⟨#[m]⟩))] H (fun r H' => r = .tup [.v (.string (⟨(cut s.data.toList [m]).1.toArray⟩)), .v (.string (⟨(cut s.data.toList [m]).2.1.toArray⟩)), .v (.bool ((cut s.data.toList [m]).2.2))] ∧ H' = H) := by
  obtain ⟨k, M, cs, T, fr, h0, h⟩ := hm
  exact cut71_ac s hs m h0 h
theorem impl49v_ac (s : ByteArray) (hs : s.size ≤ 1048576) {c : Ch} (h : IsRdc s c) {H : List ABox} (hv : HasVars H) (hm : HasMax H) : AC Tryd.prog 10 [.v (.string (s))] H (fun r H' => r = .tup [.agg [.sl 1 H.length 0 c.1.length, .sl 1 (H.length + 1) 0 c.2.length], .v (.bool (true))] ∧ H' = H ++ [.row false (.int .i64) c.1, .row false (.int .i64) c.2]) := by
  obtain ⟨h1, h2, h3, h4⟩ := h
  have hd : decide (ChOk c) = true := decide_eq_true h4
  have hx := rdl_len h2
  have hy := rdl_len h3
  have hc := fun {H : List ABox} (hm : HasMax H) => cutM_ac s hs 47 hm
  obtain ⟨g1, g2, g3⟩ := (rdc_cut s c.1 c.2).2 ⟨h1, h2, h3⟩
  obtain ⟨k1, k2⟩ := cut_len 47 s
  rw [← bsz] at k1 k2
  rw [g1] at hc
  generalize (⟨(cut s.data.toList [47]).1.toArray⟩ : ByteArray) = f1 at g2 hc k1
  generalize (⟨(cut s.data.toList [47]).2.1.toArray⟩ : ByteArray) = f2 at g3 hc k2
  refine AC.enter envOk Tryd.func10 rfl (by decide) Tryd.ntmps10 Tryd.results10 (by simp) fun hB => ?_
  repeat' (first | (with_reducible first | refine AW.sreg envOk fun K hK => ?_ | refine AW.region envOk fun K hK => ?_ | refine vcL_nil ?_) | (with_reducible (first | refine vcL_cons fun K' hK' => ?_); simp only [isC, Bool.false_or, Bool.or_true, ↓reduceDIte, List.take_length, Nat.le_refl, List.drop_zero, vGuard, undef, Bool.not_eq_eq_eq_not, dstOk, vcOp, vcF, isPure, putS, vcCall, St.ev, St.put, lk, AVal.ofVal, initS, Nat.reduceLT, true_and, and_true, vUn, vPick, vPart, vLoad, vStore, vExt, vAlloc, vBuild, partsA, fillA, decAll, AVal.flat, AVal.cell, cellsOk, setRange, ETy.enc, ETy.dec, ETy.sz, ETy.d, cond, Nat.reduceBEq, Nat.reduceAdd, Int.toNat_natCast, List.length_set, List.length_append, List.length_replicate, List.length_take, Nat.reduceSub, Nat.reduceEqDiff, get_loc, setBox_loc, next_eq, List.length_cons, List.length_nil, List.map_cons, List.map_nil, List.append_nil, List.nil_append, List.cons_append, List.set_cons_zero, List.set_cons_succ, getD_zero, getD_succ, List.getElem?_cons_succ, List.getElem?_cons_zero, List.take_succ_cons, List.take_zero, List.drop_succ_cons, List.all_cons, List.all_nil, Bool.and_true, Bool.true_and, Option.bind_some, Option.map_some, Option.map_none, decide_eq_true_eq, decide_eq_false_iff_not, ne_eq, Bool.not_eq_true, Bool.not_eq_false, Decidable.not_not, not_true_eq_false, not_false_eq_true, forall_const, false_implies, Bool.true_eq_false, Bool.false_eq_true, reduceCtorEq, decide_true, decide_false, Bool.not_true, Bool.not_false, if_true, if_false, Nat.zero_add, Nat.lt_irrefl, Value.oneCell', gt_iff_lt, Nat.reduceLeDiff, Nat.lt_add_one, vvar_2, vzero_2, vknd_2, vsn_2, vvar_4, vzero_4, vknd_4, vsn_4, vvar_9, vzero_9, vknd_9, vsn_9, vsl_24, vkn_24, vvar_24, vzero_24, vvar_26, vzero_26, vbld_26, hd]; try simp (disch := omega) only [wrap64]) | (with_reducible refine hK' _ ?_; clear hK' K') | (with_reducible refine hK _ ?_; clear hK K) | ((with_reducible show vCall _ (AVal.fn 31 _) _ _ _); refine vCall_pure (hc (hm.app _)) ?_) | ((with_reducible show vCall _ (AVal.fn 32 _) _ _ _); refine vCall_newE (read27v_ac f1 (by omega) g2 (hv.app _) (hm.app _)) (by simp only [List.length_append, List.length_cons, List.length_nil, Nat.reduceAdd]; rfl) ?_) | ((with_reducible show vCall _ (AVal.fn 32 _) _ _ _); refine vCall_newE (read27v_ac f2 (by omega) g3 (hv.app _) (hm.app _)) (by simp only [List.length_append, List.length_cons, List.length_nil, Nat.reduceAdd]; rfl) ?_) | ((with_reducible show vCall _ (AVal.fn 11 _) _ _ _); refine vCall_pure (AC.lent0 (by (repeat' (first | exact trivial | exact LentV.rowL rfl rfl rfl | exact LentV.rowL rfl rfl (by assumption) | refine LentV.boxL rfl ?_ | exact LentV.nil _ | exact LentV.same _ | refine LentV.aggL ?_ | refine And.intro ?_ ?_)); (first | done | fail)) (by (repeat' (first | exact NoRd.v _ | exact NoRd.sl | exact NoRd.mp | exact NoRd.tup nord_nil | refine NoRd.tup ?_ | refine NoRd.agg ?_ | exact nord_nil | refine nord_cons ?_ ?_)); (first | done | fail)) (is17_ac c (by omega) (by omega) _)) ?_) | (with_reducible first | refine And.intro (And.intro rfl rfl) ?_ | refine And.intro (by omega) ?_) | (with_reducible refine And.intro (fun hg => ?_) (fun hg => ?_) <;> first | simp only [eq_false hg, rsB] | simp only [eq_true hg, rsB] | simp only [hg, rsB]) | (with_reducible first | refine And.intro rfl (And.intro rfl rfl) | refine thenQ_n ?_ | refine thenQ_exit ?_ | refine thenQ_ret ?_ | refine midQ_ret ?_ | refine midQ_exit ?_ | refine blockQ_same ?_ | refine blockQ_ne (by decide) ?_ | refine blockQ_ret ?_ | refine blockQ_n ?_ | refine AW.exit ?_ | refine AW.block ?_ | refine AW.cond_t rfl ?_ | refine AW.cond_f rfl ?_ | refine AW.cond_dec rfl (fun hc => ?_) (fun hc => ?_)) | (with_reducible refine AW.cond rfl (fun hc => ?_) (fun hc => ?_) <;> try simp only [Bool.not_eq_eq_eq_not, Bool.not_true, Bool.not_false, decide_eq_true_eq, decide_eq_false_iff_not] at hc) | (with_reducible first | refine AW.seq ?_ | refine AW.skip ?_ | refine AW.ret ?_ | refine And.intro ?_ ?_) | (with_reducible intro hg; first | simp only [eq_false hg, rsB] | simp only [eq_true hg, rsB]) | (with_reducible refine retQ_drop ?_; simp only [vRes, packRes, vLoad, vPart, lk, cond, Nat.reduceBEq, get_loc, getD_zero, getD_succ, true_and, List.length_cons, List.length_nil, Nat.reduceAdd, Nat.reduceLT, Nat.reduceLeDiff, List.take_succ_cons, List.take_zero, List.drop_succ_cons, List.drop_zero, vvar_2, vzero_2, vknd_2, vsn_2, vvar_4, vzero_4, vknd_4, vsn_4, vvar_9, vzero_9, vknd_9, vsn_9, vsl_24, vkn_24, vvar_24, vzero_24, vvar_26, vzero_26, vbld_26]) )
  all_goals first
    | (exfalso; omega)
    | exact ⟨_, _, FinOk.keep [1, 2] (L := [.row false (.int .i64) c.1, .row false (.int .i64) c.2]) hB (by decide) ⟨RenB.plRow rfl, by simp, RenB.plRow rfl, by simp, trivial⟩ (RenV.tupL (cs' := [.agg [.sl 1 (H.length + 0) 0 c.1.length, .sl 1 (H.length + 1) 0 c.2.length], .v (.bool (true))]) ⟨RenV.aggL (cs' := [.sl 1 (H.length + 0) 0 c.1.length, .sl 1 (H.length + 1) 0 c.2.length]) ⟨RenV.sl (j := 0) rfl, RenV.sl (j := 1) rfl, trivial⟩, RenV.low (.v _), trivial⟩), rfl, rfl⟩
    | fail
end Go.Proofs.YtmkcahfhnehanaaDoor
end
section
set_option linter.unusedSimpArgs false
set_option linter.unusedVariables false
set_option maxHeartbeats 8000000
namespace Go.Proofs.YtmkcahfhnehanaaDoor
open Go.Lib Go.Eng
theorem blong5_ac (xs ys : List Int) (hx : xs.length ≤ 9223372036854775807) (hy : ys.length ≤ 9223372036854775807) (H : List ABox) : AC Tryd.prog 5 [.rd (.int .u8) xs, .rd (.int .u8) ys] H (fun r H' => r = .v (.bool (decide (1048576 < xs.length ∨ 1048576 < ys.length))) ∧ H' = H) := by
  refine AC.enter envOk Tryd.func5 rfl (by decide) Tryd.ntmps5 Tryd.results5 (by simp) fun hB => ?_
  repeat' (first | (with_reducible first | refine AW.sreg envOk fun K hK => ?_ | refine AW.region envOk fun K hK => ?_ | refine vcL_nil ?_) | (with_reducible (first | refine vcL_cons fun K' hK' => ?_); simp only [isC, Bool.false_or, Bool.or_true, ↓reduceDIte, List.take_length, Nat.le_refl, List.drop_zero, vGuard, undef, Bool.not_eq_eq_eq_not, dstOk, vcOp, vcF, isPure, putS, vcCall, St.ev, St.put, lk, AVal.ofVal, initS, Nat.reduceLT, true_and, and_true, vBin, vPick, vPart, vLoad, vLen, AVal.flat, AVal.cell, cellsOk, setRange, ETy.enc, ETy.dec, ETy.sz, ETy.d, cond, Nat.reduceBEq, Nat.reduceAdd, Int.toNat_natCast, List.length_set, List.length_append, List.length_replicate, List.length_take, Nat.reduceSub, Nat.reduceEqDiff, get_loc, setBox_loc, next_eq, List.length_cons, List.length_nil, List.map_cons, List.map_nil, List.append_nil, List.nil_append, List.cons_append, List.set_cons_zero, List.set_cons_succ, getD_zero, getD_succ, List.getElem?_cons_succ, List.getElem?_cons_zero, List.take_succ_cons, List.take_zero, List.drop_succ_cons, List.all_cons, List.all_nil, Bool.and_true, Bool.true_and, Option.bind_some, Option.map_some, Option.map_none, decide_eq_true_eq, decide_eq_false_iff_not, ne_eq, Bool.not_eq_true, Bool.not_eq_false, Decidable.not_not, not_true_eq_false, not_false_eq_true, forall_const, false_implies, Bool.true_eq_false, Bool.false_eq_true, reduceCtorEq, decide_true, decide_false, Bool.not_true, Bool.not_false, if_true, if_false, Nat.zero_add, Nat.lt_irrefl, Value.oneCell', gt_iff_lt, Nat.reduceLeDiff, Nat.lt_add_one, vvar_3, vzero_3, vknd_3, vsn_3, vvar_4, vzero_4, vknd_4, vsn_4, vsl_22, vkn_22, vvar_22, vzero_22, vbyt_22]; try simp (disch := omega) only [wrap64]) | (with_reducible refine hK' _ ?_; clear hK' K') | (with_reducible refine hK _ ?_; clear hK K) | (with_reducible first | refine And.intro (And.intro rfl rfl) ?_ | refine And.intro (by omega) ?_) | (with_reducible refine And.intro (fun hg => ?_) (fun hg => ?_) <;> first | simp only [eq_false hg, rsB] | simp only [eq_true hg, rsB] | simp only [hg, rsB]) | (with_reducible first | refine And.intro rfl (And.intro rfl rfl) | refine thenQ_n ?_ | refine thenQ_exit ?_ | refine thenQ_ret ?_ | refine midQ_ret ?_ | refine midQ_exit ?_ | refine blockQ_same ?_ | refine blockQ_ne (by decide) ?_ | refine blockQ_ret ?_ | refine blockQ_n ?_ | refine AW.exit ?_ | refine AW.block ?_ | refine AW.cond_t rfl ?_ | refine AW.cond_f rfl ?_ | refine AW.cond_dec rfl (fun hc => ?_) (fun hc => ?_)) | (with_reducible refine AW.cond rfl (fun hc => ?_) (fun hc => ?_) <;> try simp only [Bool.not_eq_eq_eq_not, Bool.not_true, Bool.not_false, decide_eq_true_eq, decide_eq_false_iff_not] at hc) | (with_reducible first | refine AW.seq ?_ | refine AW.skip ?_ | refine AW.ret ?_ | refine And.intro ?_ ?_) | (with_reducible intro hg; first | simp only [eq_false hg, rsB] | simp only [eq_true hg, rsB]) | (with_reducible refine retQ_drop ?_; simp only [vRes, packRes, vLoad, vPart, lk, cond, Nat.reduceBEq, get_loc, getD_zero, getD_succ, true_and, List.length_cons, List.length_nil, Nat.reduceAdd, Nat.reduceLT, Nat.reduceLeDiff, List.take_succ_cons, List.take_zero, List.drop_succ_cons, List.drop_zero, vvar_3, vzero_3, vknd_3, vsn_3, vvar_4, vzero_4, vknd_4, vsn_4, vsl_22, vkn_22, vvar_22, vzero_22, vbyt_22]) )
  all_goals refine ⟨_, _, FinOk.drop hB (Pl.ids (by (repeat' (first | exact Pl.v _ | exact Pl.junk | exact Pl.rd rfl _ | exact pl_nil | refine pl_cons ?_ ?_ | refine Pl.agg ?_ | refine Pl.tup ?_ | refine Pl.rp ?_ | refine Pl.fn ?_)); (first | done | fail))), ?_, rfl⟩
  all_goals refine v_bool ?_
  all_goals grind
/-- Numbers held against themselves. -/
theorem nums12_ac (xs : List Int) (hx : xs.length ≤ 1000000000) (H : List ABox) : AC Tryd.prog 12 [.rd (.int .i64) (xs), .rd (.int .i64) (xs)] H (fun r H' => r = .v (.bool (true)) ∧ H' = H) := by
  refine AC.enter envOk Tryd.func12 rfl (by decide) Tryd.ntmps12 Tryd.results12 (by simp) fun hB => ?_
  repeat' (first | (with_reducible first | refine AW.sreg envOk fun K hK => ?_ | refine AW.region envOk fun K hK => ?_) | (with_reducible refine AW.d0reg envOk mixed ?_ ?_ fun K hK => ?_; (first | rfl | exact base_len | exact base_len0); kernel_rfl) | (with_reducible refine AW.d0 envOk mixed ?_ ?_ fun K hK => ?_; (first | rfl | exact base_len | exact base_len0); kernel_rfl) | (with_reducible first | refine vcD_nil ?_ | refine vcL_nil ?_) | (with_reducible (first | refine vcD_cons fun K' hK' => ?_ | refine vcL_cons fun K' hK' => ?_); simp only [isC, Bool.false_or, Bool.or_true, ↓reduceDIte, List.take_length, Nat.le_refl, List.drop_zero, vGuard, undef, Bool.not_eq_eq_eq_not, dstOk, vcOp, vcF, isPure, putS, vcCall, St.ev, St.put, lk, AVal.ofVal, initS, Nat.reduceLT, true_and, and_true, vBin, vPart, vLoad, vIdxA, vLen, AVal.flat, AVal.cell, cellsOk, setRange, ETy.enc, ETy.dec, ETy.sz, ETy.d, cond, Nat.reduceBEq, Nat.reduceAdd, Int.toNat_natCast, List.length_set, List.length_append, List.length_replicate, List.length_take, Nat.reduceSub, Nat.reduceEqDiff, get_loc, setBox_loc, next_eq, List.length_cons, List.length_nil, List.map_cons, List.map_nil, List.append_nil, List.nil_append, List.cons_append, List.set_cons_zero, List.set_cons_succ, getD_zero, getD_succ, List.getElem?_cons_succ, List.getElem?_cons_zero, List.take_succ_cons, List.take_zero, List.drop_succ_cons, List.all_cons, List.all_nil, Bool.and_true, Bool.true_and, Option.bind_some, Option.map_some, Option.map_none, decide_eq_true_eq, decide_eq_false_iff_not, ne_eq, Bool.not_eq_true, Bool.not_eq_false, Decidable.not_not, not_true_eq_false, not_false_eq_true, forall_const, false_implies, Bool.true_eq_false, Bool.false_eq_true, reduceCtorEq, decide_true, decide_false, Bool.not_true, Bool.not_false, if_true, if_false, Nat.zero_add, Nat.lt_irrefl, Value.oneCell', gt_iff_lt, Nat.reduceLeDiff, Nat.lt_add_one, vvar_2, vzero_2, vknd_2, vsn_2, vvar_3, vzero_3, vknd_3, vsn_3, vvar_4, vzero_4, vknd_4, vsn_4, vsl_24, vkn_24, vvar_24, vzero_24]; try simp (disch := omega) only [wrap64]) | (with_reducible refine hK' _ ?_; clear hK' K') | (with_reducible refine hK _ ?_; clear hK K) | (with_reducible first | refine And.intro (And.intro rfl rfl) ?_ | refine And.intro (by omega) ?_) | (with_reducible refine And.intro (fun hg => ?_) (fun hg => ?_) <;> first | simp only [eq_false hg, rsB] | simp only [eq_true hg, rsB] | simp only [hg, rsB]) | (with_reducible first | refine And.intro rfl (And.intro rfl rfl) | refine thenQ_n ?_ | refine thenQ_exit ?_ | refine thenQ_ret ?_ | refine midQ_ret ?_ | refine midQ_exit ?_ | refine blockQ_same ?_ | refine blockQ_ne (by decide) ?_ | refine blockQ_ret ?_ | refine blockQ_n ?_ | refine AW.exit ?_ | refine AW.block ?_ | refine AW.cond_t rfl ?_ | refine AW.cond_f rfl ?_ | refine AW.cond_dec rfl (fun hc => ?_) (fun hc => ?_)) | (with_reducible refine AW.cond rfl (fun hc => ?_) (fun hc => ?_) <;> try simp only [Bool.not_eq_eq_eq_not, Bool.not_true, Bool.not_false, decide_eq_true_eq, decide_eq_false_iff_not] at hc) | (with_reducible first | refine AW.seq ?_ | refine AW.skip ?_ | refine AW.ret ?_ | refine And.intro ?_ ?_) | (with_reducible intro hg; first | simp only [eq_false hg, rsB] | simp only [eq_true hg, rsB]) | (with_reducible refine retQ_drop ?_; simp only [vRes, packRes, vLoad, vPart, lk, cond, Nat.reduceBEq, get_loc, getD_zero, getD_succ, true_and, List.length_cons, List.length_nil, Nat.reduceAdd, Nat.reduceLT, Nat.reduceLeDiff, List.take_succ_cons, List.take_zero, List.drop_succ_cons, List.drop_zero, vvar_2, vzero_2, vknd_2, vsn_2, vvar_3, vzero_3, vknd_3, vsn_3, vvar_4, vzero_4, vknd_4, vsn_4, vsl_24, vkn_24, vvar_24, vzero_24]) )
  all_goals first
    | (exfalso; omega)
    | skip
  refine AW.loop (fun i : Nat => (⟨26, [(0, .rd (.int .i64) (xs)), (1, .rd (.int .i64) (xs)), (5, .v (.int .i64 ((i : Int))))], H, []⟩ : St)) (fun i => i ≤ xs.length) (fun i => xs.length - i) 0 (Nat.zero_le _) (Weak.slots (by repeat' first | exact trivial | exact ⟨rfl, trivial⟩ | refine ⟨rfl, ?_⟩)) ?_
  intro i hi
  by_cases hin : i < xs.length
  ·
    repeat' (first | (with_reducible first | refine AW.sreg envOk fun K hK => ?_ | refine AW.region envOk fun K hK => ?_) | (with_reducible refine AW.d0reg envOk mixed ?_ ?_ fun K hK => ?_; (first | rfl | exact base_len | exact base_len0); kernel_rfl) | (with_reducible refine AW.d0 envOk mixed ?_ ?_ fun K hK => ?_; (first | rfl | exact base_len | exact base_len0); kernel_rfl) | (with_reducible first | refine vcD_nil ?_ | refine vcL_nil ?_) | (with_reducible (first | refine vcD_cons fun K' hK' => ?_ | refine vcL_cons fun K' hK' => ?_); simp only [isC, Bool.false_or, Bool.or_true, ↓reduceDIte, List.take_length, Nat.le_refl, List.drop_zero, vGuard, undef, Bool.not_eq_eq_eq_not, dstOk, vcOp, vcF, isPure, putS, vcCall, St.ev, St.put, lk, AVal.ofVal, initS, Nat.reduceLT, true_and, and_true, vBin, vPart, vLoad, vIdxA, vLen, AVal.flat, AVal.cell, cellsOk, setRange, ETy.enc, ETy.dec, ETy.sz, ETy.d, cond, Nat.reduceBEq, Nat.reduceAdd, Int.toNat_natCast, List.length_set, List.length_append, List.length_replicate, List.length_take, Nat.reduceSub, Nat.reduceEqDiff, get_loc, setBox_loc, next_eq, List.length_cons, List.length_nil, List.map_cons, List.map_nil, List.append_nil, List.nil_append, List.cons_append, List.set_cons_zero, List.set_cons_succ, getD_zero, getD_succ, List.getElem?_cons_succ, List.getElem?_cons_zero, List.take_succ_cons, List.take_zero, List.drop_succ_cons, List.all_cons, List.all_nil, Bool.and_true, Bool.true_and, Option.bind_some, Option.map_some, Option.map_none, decide_eq_true_eq, decide_eq_false_iff_not, ne_eq, Bool.not_eq_true, Bool.not_eq_false, Decidable.not_not, not_true_eq_false, not_false_eq_true, forall_const, false_implies, Bool.true_eq_false, Bool.false_eq_true, reduceCtorEq, decide_true, decide_false, Bool.not_true, Bool.not_false, if_true, if_false, Nat.zero_add, Nat.lt_irrefl, Value.oneCell', gt_iff_lt, Nat.reduceLeDiff, Nat.lt_add_one, vvar_2, vzero_2, vknd_2, vsn_2, vvar_3, vzero_3, vknd_3, vsn_3, vvar_4, vzero_4, vknd_4, vsn_4, vsl_24, vkn_24, vvar_24, vzero_24]; try simp (disch := omega) only [wrap64]) | (with_reducible refine hK' _ ?_; clear hK' K') | (with_reducible refine hK _ ?_; clear hK K) | (with_reducible first | refine And.intro (And.intro rfl rfl) ?_ | refine And.intro (by omega) ?_) | (with_reducible refine And.intro (fun hg => ?_) (fun hg => ?_) <;> first | simp only [eq_false hg, rsB] | simp only [eq_true hg, rsB] | simp only [hg, rsB]) | (with_reducible first | refine And.intro rfl (And.intro rfl rfl) | refine thenQ_n ?_ | refine thenQ_exit ?_ | refine thenQ_ret ?_ | refine midQ_ret ?_ | refine midQ_exit ?_ | refine blockQ_same ?_ | refine blockQ_ne (by decide) ?_ | refine blockQ_ret ?_ | refine blockQ_n ?_ | refine AW.exit ?_ | refine AW.block ?_ | refine AW.cond_t rfl ?_ | refine AW.cond_f rfl ?_ | refine AW.cond_dec rfl (fun hc => ?_) (fun hc => ?_)) | (with_reducible refine AW.cond rfl (fun hc => ?_) (fun hc => ?_) <;> try simp only [Bool.not_eq_eq_eq_not, Bool.not_true, Bool.not_false, decide_eq_true_eq, decide_eq_false_iff_not] at hc) | (with_reducible first | refine AW.seq ?_ | refine AW.skip ?_ | refine AW.ret ?_ | refine And.intro ?_ ?_) | (with_reducible intro hg; first | simp only [eq_false hg, rsB] | simp only [eq_true hg, rsB]) | (with_reducible refine retQ_drop ?_; simp only [vRes, packRes, vLoad, vPart, lk, cond, Nat.reduceBEq, get_loc, getD_zero, getD_succ, true_and, List.length_cons, List.length_nil, Nat.reduceAdd, Nat.reduceLT, Nat.reduceLeDiff, List.take_succ_cons, List.take_zero, List.drop_succ_cons, List.drop_zero, vvar_2, vzero_2, vknd_2, vsn_2, vvar_3, vzero_3, vknd_3, vsn_3, vvar_4, vzero_4, vknd_4, vsn_4, vsl_24, vkn_24, vvar_24, vzero_24]) )
    all_goals first
      | (exfalso; omega)
      | contradiction
      | exact ⟨i + 1, by omega, by omega, (Weak.slots (by repeat' first | exact trivial | exact ⟨rfl, trivial⟩ | refine ⟨rfl, ?_⟩))⟩
  · obtain rfl : i = xs.length := by omega
    repeat' (first | (with_reducible first | refine AW.sreg envOk fun K hK => ?_ | refine AW.region envOk fun K hK => ?_) | (with_reducible refine AW.d0reg envOk mixed ?_ ?_ fun K hK => ?_; (first | rfl | exact base_len | exact base_len0); kernel_rfl) | (with_reducible refine AW.d0 envOk mixed ?_ ?_ fun K hK => ?_; (first | rfl | exact base_len | exact base_len0); kernel_rfl) | (with_reducible first | refine vcD_nil ?_ | refine vcL_nil ?_) | (with_reducible (first | refine vcD_cons fun K' hK' => ?_ | refine vcL_cons fun K' hK' => ?_); simp only [isC, Bool.false_or, Bool.or_true, ↓reduceDIte, List.take_length, Nat.le_refl, List.drop_zero, vGuard, undef, Bool.not_eq_eq_eq_not, dstOk, vcOp, vcF, isPure, putS, vcCall, St.ev, St.put, lk, AVal.ofVal, initS, Nat.reduceLT, true_and, and_true, vBin, vPart, vLoad, vIdxA, vLen, AVal.flat, AVal.cell, cellsOk, setRange, ETy.enc, ETy.dec, ETy.sz, ETy.d, cond, Nat.reduceBEq, Nat.reduceAdd, Int.toNat_natCast, List.length_set, List.length_append, List.length_replicate, List.length_take, Nat.reduceSub, Nat.reduceEqDiff, get_loc, setBox_loc, next_eq, List.length_cons, List.length_nil, List.map_cons, List.map_nil, List.append_nil, List.nil_append, List.cons_append, List.set_cons_zero, List.set_cons_succ, getD_zero, getD_succ, List.getElem?_cons_succ, List.getElem?_cons_zero, List.take_succ_cons, List.take_zero, List.drop_succ_cons, List.all_cons, List.all_nil, Bool.and_true, Bool.true_and, Option.bind_some, Option.map_some, Option.map_none, decide_eq_true_eq, decide_eq_false_iff_not, ne_eq, Bool.not_eq_true, Bool.not_eq_false, Decidable.not_not, not_true_eq_false, not_false_eq_true, forall_const, false_implies, Bool.true_eq_false, Bool.false_eq_true, reduceCtorEq, decide_true, decide_false, Bool.not_true, Bool.not_false, if_true, if_false, Nat.zero_add, Nat.lt_irrefl, Value.oneCell', gt_iff_lt, Nat.reduceLeDiff, Nat.lt_add_one, vvar_2, vzero_2, vknd_2, vsn_2, vvar_3, vzero_3, vknd_3, vsn_3, vvar_4, vzero_4, vknd_4, vsn_4, vsl_24, vkn_24, vvar_24, vzero_24]; try simp (disch := omega) only [wrap64]) | (with_reducible refine hK' _ ?_; clear hK' K') | (with_reducible refine hK _ ?_; clear hK K) | (with_reducible first | refine And.intro (And.intro rfl rfl) ?_ | refine And.intro (by omega) ?_) | (with_reducible refine And.intro (fun hg => ?_) (fun hg => ?_) <;> first | simp only [eq_false hg, rsB] | simp only [eq_true hg, rsB] | simp only [hg, rsB]) | (with_reducible first | refine And.intro rfl (And.intro rfl rfl) | refine thenQ_n ?_ | refine thenQ_exit ?_ | refine thenQ_ret ?_ | refine midQ_ret ?_ | refine midQ_exit ?_ | refine blockQ_same ?_ | refine blockQ_ne (by decide) ?_ | refine blockQ_ret ?_ | refine blockQ_n ?_ | refine AW.exit ?_ | refine AW.block ?_ | refine AW.cond_t rfl ?_ | refine AW.cond_f rfl ?_ | refine AW.cond_dec rfl (fun hc => ?_) (fun hc => ?_)) | (with_reducible refine AW.cond rfl (fun hc => ?_) (fun hc => ?_) <;> try simp only [Bool.not_eq_eq_eq_not, Bool.not_true, Bool.not_false, decide_eq_true_eq, decide_eq_false_iff_not] at hc) | (with_reducible first | refine AW.seq ?_ | refine AW.skip ?_ | refine AW.ret ?_ | refine And.intro ?_ ?_) | (with_reducible intro hg; first | simp only [eq_false hg, rsB] | simp only [eq_true hg, rsB]) | (with_reducible refine retQ_drop ?_; simp only [vRes, packRes, vLoad, vPart, lk, cond, Nat.reduceBEq, get_loc, getD_zero, getD_succ, true_and, List.length_cons, List.length_nil, Nat.reduceAdd, Nat.reduceLT, Nat.reduceLeDiff, List.take_succ_cons, List.take_zero, List.drop_succ_cons, List.drop_zero, vvar_2, vzero_2, vknd_2, vsn_2, vvar_3, vzero_3, vknd_3, vsn_3, vvar_4, vzero_4, vknd_4, vsn_4, vsl_24, vkn_24, vvar_24, vzero_24]) )
    all_goals first
      | (exfalso; omega)
      | exact ⟨_, _, FinOk.drop hB (Pl.ids (by (repeat' (first | exact Pl.v _ | exact Pl.junk | exact Pl.rd rfl _ | exact pl_nil | refine pl_cons ?_ ?_ | refine Pl.agg ?_ | refine Pl.tup ?_ | refine Pl.rp ?_ | refine Pl.fn ?_)); (first | done | fail))), rfl, rfl⟩
theorem nets7_ac (c : Ch) (hok : ChOk c) (H : List ABox) : AC Tryd.prog 7 [.agg [.rd (.int .i64) (c).1, .rd (.int .i64) (c).2]] H (fun r H' => r = .tup [.sl 1 H.length 0 (nets c).length, .v (.bool (true))] ∧ H' = H ++ [.row false (.int .i64) (nets c)]) := by
  have h1 := hok.1
  have hd : decide (ChOk c) = true := decide_eq_true hok
  refine AC.enter envOk Tryd.func7 rfl (by decide) Tryd.ntmps7 Tryd.results7 (by simp) fun hB => ?_
  repeat' (first | (with_reducible first | refine AW.sreg envOk fun K hK => ?_ | refine AW.region envOk fun K hK => ?_ | refine vcL_nil ?_) | (with_reducible (first | refine vcL_cons fun K' hK' => ?_); simp only [isC, Bool.false_or, Bool.or_true, ↓reduceDIte, List.take_length, Nat.le_refl, List.drop_zero, vGuard, undef, Bool.not_eq_eq_eq_not, dstOk, vcOp, vcF, isPure, putS, vcCall, St.ev, St.put, lk, AVal.ofVal, initS, Nat.reduceLT, true_and, and_true, vUn, vPart, vLoad, vBox, vSlice, bnd, partsA, fillA, decAll, AVal.flat, AVal.cell, cellsOk, setRange, ETy.enc, ETy.dec, ETy.sz, ETy.d, cond, Nat.reduceBEq, Nat.reduceAdd, Int.toNat_natCast, List.length_set, List.length_append, List.length_replicate, List.length_take, Nat.reduceSub, Nat.reduceEqDiff, get_loc, setBox_loc, next_eq, List.length_cons, List.length_nil, List.map_cons, List.map_nil, List.append_nil, List.nil_append, List.cons_append, List.set_cons_zero, List.set_cons_succ, getD_zero, getD_succ, List.getElem?_cons_succ, List.getElem?_cons_zero, List.take_succ_cons, List.take_zero, List.drop_succ_cons, List.all_cons, List.all_nil, Bool.and_true, Bool.true_and, Option.bind_some, Option.map_some, Option.map_none, decide_eq_true_eq, decide_eq_false_iff_not, ne_eq, Bool.not_eq_true, Bool.not_eq_false, Decidable.not_not, not_true_eq_false, not_false_eq_true, forall_const, false_implies, Bool.true_eq_false, Bool.false_eq_true, reduceCtorEq, decide_true, decide_false, Bool.not_true, Bool.not_false, if_true, if_false, Nat.zero_add, Nat.lt_irrefl, Value.oneCell', gt_iff_lt, Nat.reduceLeDiff, Nat.lt_add_one, vvar_4, vzero_4, vknd_4, vsn_4, vsl_24, vkn_24, vvar_24, vzero_24, vvar_26, vzero_26, vbld_26, hd]; try simp (disch := omega) only [wrap64]) | (with_reducible refine hK' _ ?_; clear hK' K') | (with_reducible refine hK _ ?_; clear hK K) | ((with_reducible show vCall _ (AVal.fn 11 _) _ _ _); refine vCall_pure (is17_ac c (by omega) (by omega) _) ?_) | ((with_reducible show vCall _ (AVal.fn 28 _) _ _ _); refine vCall_newE (AC.lentN (by simp only [killAll_length, List.length_append, List.length_cons, List.length_nil, Nat.reduceAdd]; rfl) (by (repeat' (first | exact trivial | exact LentV.rowL rfl rfl rfl | exact LentV.rowL rfl rfl (by assumption) | refine LentV.boxL rfl ?_ | exact LentV.nil _ | exact LentV.same _ | refine LentV.aggL ?_ | refine And.intro ?_ ?_)); (first | done | fail)) (by (repeat' (first | exact NoRd.v _ | exact NoRd.sl | exact NoRd.mp | exact NoRd.tup nord_nil | refine NoRd.tup ?_ | refine NoRd.agg ?_ | exact nord_nil | refine nord_cons ?_ ?_)); (first | done | fail)) (by (repeat' (first | exact nordW_nil | refine nordW_cons ?_ ?_ | exact And.intro rfl rfl | exact trivial)); (first | done | fail)) (nets58_ac c (by omega) (by omega) _)) rfl ?_) | (with_reducible first | refine And.intro (And.intro rfl rfl) ?_ | refine And.intro (by omega) ?_) | (with_reducible refine And.intro (fun hg => ?_) (fun hg => ?_) <;> first | simp only [eq_false hg, rsB] | simp only [eq_true hg, rsB] | simp only [hg, rsB]) | (with_reducible first | refine And.intro rfl (And.intro rfl rfl) | refine thenQ_n ?_ | refine thenQ_exit ?_ | refine thenQ_ret ?_ | refine midQ_ret ?_ | refine midQ_exit ?_ | refine blockQ_same ?_ | refine blockQ_ne (by decide) ?_ | refine blockQ_ret ?_ | refine blockQ_n ?_ | refine AW.exit ?_ | refine AW.block ?_ | refine AW.cond_t rfl ?_ | refine AW.cond_f rfl ?_ | refine AW.cond_dec rfl (fun hc => ?_) (fun hc => ?_)) | (with_reducible refine AW.cond rfl (fun hc => ?_) (fun hc => ?_) <;> try simp only [Bool.not_eq_eq_eq_not, Bool.not_true, Bool.not_false, decide_eq_true_eq, decide_eq_false_iff_not] at hc) | (with_reducible first | refine AW.seq ?_ | refine AW.skip ?_ | refine AW.ret ?_ | refine And.intro ?_ ?_) | (with_reducible intro hg; first | simp only [eq_false hg, rsB] | simp only [eq_true hg, rsB]) | (with_reducible refine retQ_drop ?_; simp only [vRes, packRes, vLoad, vPart, lk, cond, Nat.reduceBEq, get_loc, getD_zero, getD_succ, true_and, List.length_cons, List.length_nil, Nat.reduceAdd, Nat.reduceLT, Nat.reduceLeDiff, List.take_succ_cons, List.take_zero, List.drop_succ_cons, List.drop_zero, vvar_4, vzero_4, vknd_4, vsn_4, vsl_24, vkn_24, vvar_24, vzero_24, vvar_26, vzero_26, vbld_26]) )
  exact ⟨_, _, FinOk.keep [1] (L := [.row false (.int .i64) (nets c)]) hB (by decide) ⟨RenB.plRow rfl, by simp, trivial⟩ (RenV.tupL (cs' := [.sl 1 (H.length + 0) 0 (nets c).length, .v (.bool (true))]) ⟨RenV.sl (j := 0) rfl, RenV.low (.v _), trivial⟩), rfl, rfl⟩
theorem nets7s_ac (c : Ch) (hok : ChOk c) (H : List ABox) : AC Tryd.prog 7 [.agg [.rd (.int .i64) (c).1, .rd (.int .i64) (c).2]] H (fun r H' => r = .tup [.rd (.int .i64) (nets c), .v (.bool (true))] ∧ H' = H) := by
  refine AC.sealT (new := [.row false (.int .i64) (nets c)]) (cs := [.sl 1 H.length 0 (nets c).length, .v (.bool (true))]) (cs' := [.rd (.int .i64) (nets c), .v (.bool (true))]) ⟨?_, .same _, trivial⟩ (Pl.ids (by (repeat' (first | exact Pl.v _ | exact Pl.junk | exact Pl.rd rfl _ | exact pl_nil | refine pl_cons ?_ ?_ | refine Pl.agg ?_ | refine Pl.tup ?_ | refine Pl.rp ?_ | refine Pl.fn ?_)); (first | done | fail))) (nets7_ac c hok H)
  rw [← killAll_length H]
  exact LentV.rowL (j := 0) rfl rfl rfl
theorem read10s_ac (s : ByteArray) (hs : s.size ≤ 1048576) {c : Ch} (h : IsRdc s c) {H : List ABox} (hv : HasVars H) (hm : HasMax H) : AC Tryd.prog 10 [.v (.string (s))] H (fun r H' => r = .tup [.agg [.rd (.int .i64) (c).1, .rd (.int .i64) (c).2], .v (.bool (true))] ∧ H' = H) := by
  refine AC.sealT (new := [.row false (.int .i64) c.1, .row false (.int .i64) c.2]) (cs := [.agg [.sl 1 H.length 0 c.1.length, .sl 1 (H.length + 1) 0 c.2.length], .v (.bool (true))]) (cs' := [.agg [.rd (.int .i64) (c).1, .rd (.int .i64) (c).2], .v (.bool (true))]) ⟨LentV.aggL ⟨?_, ?_, trivial⟩, .same _, trivial⟩ (Pl.ids (by (repeat' (first | exact Pl.v _ | exact Pl.junk | exact Pl.rd rfl _ | exact pl_nil | refine pl_cons ?_ ?_ | refine Pl.agg ?_ | refine Pl.tup ?_ | refine Pl.rp ?_ | refine Pl.fn ?_)); (first | done | fail))) (impl49v_ac s hs h hv hm)
  · rw [← killAll_length H]
    exact LentV.rowL (j := 0) rfl rfl rfl
  · rw [← killAll_length H]
    exact LentV.rowL (j := 1) rfl rfl rfl
theorem text9s_ac (c : Ch) (hok : ChOk c) (T : TypeId) (fr : Nat × Nat) {H : List ABox} {k : Nat} (hk : H[k]? = some (.tab 1 (.cells powCells T fr))) :
    AC Tryd.prog 9 [.agg [.rd (.int .i64) (c).1, .rd (.int .i64) (c).2]] H (fun r H' => r = .tup [.v (.string (⟨(chB c).toArray⟩)), .v (.bool (true))] ∧ H' = H) := by
  have h1 := hok.1
  have h := impl46_ac c (by omega) (by omega) T fr hk
  rw [if_pos hok, decide_eq_true hok] at h
  exact h
theorem chB_size {c : Ch} (hok : ChOk c) : (⟨(chB c).toArray⟩ : ByteArray).size ≤ 1048576 := by
  obtain ⟨⟨h1, h2⟩, h3, h4⟩ := hok.rng
  have l1 := textB_len h1 h2
  have l2 := textB_len h3 h4
  show (chB c).toArray.size ≤ _
  unfold chB
  simp only [List.size_toArray, List.length_append, List.length_singleton]
  omega
theorem most8s_ac (c : Ch) (hok : ChOk c) (H : List ABox) : AC Tryd.prog 8 [.agg [.rd (.int .i64) (c).1, .rd (.int .i64) (c).2]] H (fun r H' => r = .tup [.v (.int .i64 (most c)), .v (.bool (true))] ∧ H' = H) := by
  have h1 := hok.1
  have h := impl30_ac c (by omega) (by omega) H
  rw [show mostR c = (most c, true) from if_pos hok] at h
  exact h
theorem span13s_ac (c : Ch) (hok : ChOk c) {x : Int} (hx : x ∈ nets c) (H : List ABox) : AC Tryd.prog 13 [.agg [.rd (.int .i64) (c).1, .rd (.int .i64) (c).2], .v (.int .i64 (x))] H (fun r H' => r = .tup [.v (.int .i64 ((span c x).1)), .v (.int .i64 ((span c x).2)), .v (.bool (true))] ∧ H' = H) := by
  have h1 := hok.1
  have h2 := nets_mem c hx
  have h3 := (span_law c hx).1.1
  have h := impl20_ac c x (by omega) (by omega) H
  rw [show spanR c x = ((span c x).1, (span c x).2, true) from if_pos ⟨hok, ⟨h2.1, h2.2.1⟩, h3⟩] at h
  exact h
theorem dens14s_ac (c : Ch) (hok : ChOk c) {i : Nat} (hi : i < c.1.length) (H : List ABox) : AC Tryd.prog 14 [.agg [.rd (.int .i64) (c).1, .rd (.int .i64) (c).2], .v (.int .i64 ((i : Int)))] H (fun r H' => r = .tup [.v (.int .i64 (dens c (i : Int))), .v (.bool (true))] ∧ H' = H) := by
  have h1 := hok.1
  have h := impl28_ac c (i : Int) (by omega) (by omega) H
  rw [show densR c (i : Int) = (dens c (i : Int), true) from if_pos ⟨hok, by omega, by omega⟩] at h
  exact h
noncomputable def lsO (c : Ch) (H : List ABox) (i : Nat) : St := (⟨202, [(5, .ptr 1 (H.length + 0) 0 0), (6, .rd (.int .i64) (nets c)), (8, .v (.int .i64 (most c))), (14, .v (.int .i64 (mostTo c i))), (15, .v (.int .i64 ((i : Int))))], H, [.box false [.rd (.int .i64) c.1, .rd (.int .i64) c.2]]⟩ : St)
noncomputable def lsI (c : Ch) (H : List ABox) (i k : Nat) : St := (⟨202, [(5, .ptr 1 (H.length + 0) 0 0), (6, .rd (.int .i64) (nets c)), (8, .v (.int .i64 (most c))), (14, .v (.int .i64 (mostTo c i))), (15, .v (.int .i64 ((i : Int)))), (16, .v (.int .i64 (densTo c (i : Int) k))), (17, .v (.int .i64 ((k : Int))))], H, [.box false [.rd (.int .i64) c.1, .rd (.int .i64) c.2]]⟩ : St)
theorem mostTo_bnd (c : Ch) : ∀ i, 0 ≤ mostTo c i ∧ mostTo c i ≤ 12
  | 0 => by simp [mostTo]
  | i + 1 => by
    have := mostTo_bnd c i
    have h2 := densTo_bnd c (i : Int) (nets c).length
    have h3 := nets_len c
    show 0 ≤ max (mostTo c i) (densTo c (i : Int) (nets c).length) ∧ max (mostTo c i) (densTo c (i : Int) (nets c).length) ≤ 12
    omega
theorem law3_ac (cs ds : List Int) (hc0 : cs.length ≤ 9223372036854775807) (hd0 : ds.length ≤ 9223372036854775807) (hu : U8 cs) {H : List ABox} (hvr : HasVars H) (hmx : HasMax H) :
    AC Tryd.prog 3 [.rd (.int .u8) cs, .rd (.int .u8) ds] H (fun r H' => r = .v (.bool true)) := by
  obtain ⟨kT, T, fr, hk⟩ := hvr.1
  refine AC.enter envOk Tryd.func3 rfl (by decide) Tryd.ntmps3 Tryd.results3 (by simp) fun hB => ?_
  repeat' (first | (with_reducible first | refine AW.sreg envOk fun K hK => ?_ | refine AW.region envOk fun K hK => ?_) | (with_reducible refine AW.d0reg envOk mixed ?_ ?_ fun K hK => ?_; (first | rfl | exact base_len | exact base_len0); kernel_rfl) | (with_reducible refine AW.d0 envOk mixed ?_ ?_ fun K hK => ?_; (first | rfl | exact base_len | exact base_len0); kernel_rfl) | (with_reducible first | refine vcD_nil ?_ | refine vcL_nil ?_) | (with_reducible (first | refine vcD_cons fun K' hK' => ?_ | refine vcL_cons fun K' hK' => ?_); simp only [isC, Bool.false_or, Bool.or_true, ↓reduceDIte, List.take_length, Nat.le_refl, List.drop_zero, vGuard, undef, Bool.not_eq_eq_eq_not, dstOk, vcOp, vcF, isPure, putS, vcCall, St.ev, St.put, lk, AVal.ofVal, initS, Nat.reduceLT, true_and, and_true, vBin, vUn, vPick, vPart, vLoad, vStore, vIdxA, vFldA, vExt, vLen, vAlloc, partsA, fillA, decAll, AVal.flat, AVal.cell, cellsOk, setRange, ETy.enc, ETy.dec, ETy.sz, ETy.d, cond, Nat.reduceBEq, Nat.reduceAdd, Int.toNat_natCast, List.length_set, List.length_append, List.length_replicate, List.length_take, Nat.reduceSub, Nat.reduceEqDiff, get_loc, setBox_loc, next_eq, List.length_cons, List.length_nil, List.map_cons, List.map_nil, List.append_nil, List.nil_append, List.cons_append, List.set_cons_zero, List.set_cons_succ, getD_zero, getD_succ, List.getElem?_cons_succ, List.getElem?_cons_zero, List.take_succ_cons, List.take_zero, List.drop_succ_cons, List.all_cons, List.all_nil, Bool.and_true, Bool.true_and, Option.bind_some, Option.map_some, Option.map_none, decide_eq_true_eq, decide_eq_false_iff_not, ne_eq, Bool.not_eq_true, Bool.not_eq_false, Decidable.not_not, not_true_eq_false, not_false_eq_true, forall_const, false_implies, Bool.true_eq_false, Bool.false_eq_true, reduceCtorEq, decide_true, decide_false, Bool.not_true, Bool.not_false, if_true, if_false, Nat.zero_add, Nat.lt_irrefl, Value.oneCell', gt_iff_lt, Nat.reduceLeDiff, Nat.lt_add_one, vvar_2, vzero_2, vknd_2, vsn_2, vvar_3, vzero_3, vknd_3, vsn_3, vvar_4, vzero_4, vknd_4, vsn_4, vvar_9, vzero_9, vknd_9, vsn_9, vsl_22, vkn_22, vvar_22, vzero_22, vbyt_22, vsl_24, vkn_24, vvar_24, vzero_24, vvar_26, vzero_26, vbld_26, vfld_26_0, vfld_26_1]; try simp (disch := omega) only [wrap64]) | (with_reducible refine hK' _ ?_; clear hK' K') | (with_reducible refine hK _ ?_; clear hK K) | ((with_reducible show vCall _ (AVal.fn 5 _) _ _ _); refine vCall_pure (blong5_ac _ _ hc0 hd0 _) ?_) | ((with_reducible show vcC _ 5 _ _ _); refine vcC_pure (blong5_ac _ _ hc0 hd0 _) ?_) | ((with_reducible show vCall _ (AVal.fn 6 _) _ _ _); refine vCall_ex (chan6_ac cs (by omega) hu _) (fun c hc => ?_)) | (with_reducible first | refine And.intro (And.intro rfl rfl) ?_ | refine And.intro (by omega) ?_) | (with_reducible refine And.intro (fun hg => ?_) (fun hg => ?_) <;> first | simp only [eq_false hg, rsB] | simp only [eq_true hg, rsB] | simp only [hg, rsB]) | (with_reducible first | refine And.intro rfl (And.intro rfl rfl) | refine thenQ_n ?_ | refine thenQ_exit ?_ | refine thenQ_ret ?_ | refine midQ_ret ?_ | refine midQ_exit ?_ | refine blockQ_same ?_ | refine blockQ_ne (by decide) ?_ | refine blockQ_ret ?_ | refine blockQ_n ?_ | refine AW.exit ?_ | refine AW.block ?_ | refine AW.cond_t rfl ?_ | refine AW.cond_f rfl ?_ | refine AW.cond_dec rfl (fun hc => ?_) (fun hc => ?_)) | (with_reducible refine AW.cond rfl (fun hc => ?_) (fun hc => ?_) <;> try simp only [Bool.not_eq_eq_eq_not, Bool.not_true, Bool.not_false, decide_eq_true_eq, decide_eq_false_iff_not] at hc) | (with_reducible first | refine AW.seq ?_ | refine AW.skip ?_ | refine AW.ret ?_ | refine And.intro ?_ ?_) | (with_reducible intro hg; first | simp only [eq_false hg, rsB] | simp only [eq_true hg, rsB]) | (with_reducible refine retQ_drop ?_; simp only [vRes, packRes, vLoad, vPart, lk, cond, Nat.reduceBEq, get_loc, getD_zero, getD_succ, true_and, List.length_cons, List.length_nil, Nat.reduceAdd, Nat.reduceLT, Nat.reduceLeDiff, List.take_succ_cons, List.take_zero, List.drop_succ_cons, List.drop_zero, vvar_2, vzero_2, vknd_2, vsn_2, vvar_3, vzero_3, vknd_3, vsn_3, vvar_4, vzero_4, vknd_4, vsn_4, vvar_9, vzero_9, vknd_9, vsn_9, vsl_22, vkn_22, vvar_22, vzero_22, vbyt_22, vsl_24, vkn_24, vvar_24, vzero_24, vvar_26, vzero_26, vbld_26, vfld_26_0, vfld_26_1]) )
  · exact ⟨_, _, FinOk.drop hB (.v _), rfl⟩
  obtain ⟨hok, hc8⟩ := hc
  have h1 := hok.1
  have hd : decide (ChOk c) = true := decide_eq_true hok
  have hnl := nets_len c
  repeat' (first | (with_reducible first | refine AW.sreg envOk fun K hK => ?_ | refine AW.region envOk fun K hK => ?_) | (with_reducible refine AW.d0reg envOk mixed ?_ ?_ fun K hK => ?_; (first | rfl | exact base_len | exact base_len0); kernel_rfl) | (with_reducible refine AW.d0 envOk mixed ?_ ?_ fun K hK => ?_; (first | rfl | exact base_len | exact base_len0); kernel_rfl) | (with_reducible first | refine vcD_nil ?_ | refine vcL_nil ?_) | (with_reducible (first | refine vcD_cons fun K' hK' => ?_ | refine vcL_cons fun K' hK' => ?_); simp only [isC, Bool.false_or, Bool.or_true, ↓reduceDIte, List.take_length, Nat.le_refl, List.drop_zero, vGuard, undef, Bool.not_eq_eq_eq_not, dstOk, vcOp, vcF, isPure, putS, vcCall, St.ev, St.put, lk, AVal.ofVal, initS, Nat.reduceLT, true_and, and_true, vBin, vUn, vPick, vPart, vLoad, vStore, vIdxA, vFldA, vExt, vLen, vAlloc, partsA, fillA, decAll, AVal.flat, AVal.cell, cellsOk, setRange, ETy.enc, ETy.dec, ETy.sz, ETy.d, cond, Nat.reduceBEq, Nat.reduceAdd, Int.toNat_natCast, List.length_set, List.length_append, List.length_replicate, List.length_take, Nat.reduceSub, Nat.reduceEqDiff, get_loc, setBox_loc, next_eq, List.length_cons, List.length_nil, List.map_cons, List.map_nil, List.append_nil, List.nil_append, List.cons_append, List.set_cons_zero, List.set_cons_succ, getD_zero, getD_succ, List.getElem?_cons_succ, List.getElem?_cons_zero, List.take_succ_cons, List.take_zero, List.drop_succ_cons, List.all_cons, List.all_nil, Bool.and_true, Bool.true_and, Option.bind_some, Option.map_some, Option.map_none, decide_eq_true_eq, decide_eq_false_iff_not, ne_eq, Bool.not_eq_true, Bool.not_eq_false, Decidable.not_not, not_true_eq_false, not_false_eq_true, forall_const, false_implies, Bool.true_eq_false, Bool.false_eq_true, reduceCtorEq, decide_true, decide_false, Bool.not_true, Bool.not_false, if_true, if_false, Nat.zero_add, Nat.lt_irrefl, Value.oneCell', gt_iff_lt, Nat.reduceLeDiff, Nat.lt_add_one, vvar_2, vzero_2, vknd_2, vsn_2, vvar_3, vzero_3, vknd_3, vsn_3, vvar_4, vzero_4, vknd_4, vsn_4, vvar_9, vzero_9, vknd_9, vsn_9, vsl_22, vkn_22, vvar_22, vzero_22, vbyt_22, vsl_24, vkn_24, vvar_24, vzero_24, vvar_26, vzero_26, vbld_26, vfld_26_0, vfld_26_1, hd]; try simp (disch := omega) only [wrap64]) | (with_reducible refine hK' _ ?_; clear hK' K') | (with_reducible refine hK _ ?_; clear hK K) | ((with_reducible show vCall _ (AVal.fn 7 _) _ _ _); refine vCall_pure (nets7s_ac c hok _) ?_) | ((with_reducible show vcC _ 7 _ _ _); refine vcC_pure (nets7s_ac c hok _) ?_) | ((with_reducible show vCall _ (AVal.fn 8 _) _ _ _); refine vCall_pure (most8s_ac c hok _) ?_) | ((with_reducible show vcC _ 8 _ _ _); refine vcC_pure (most8s_ac c hok _) ?_) | ((with_reducible show vCall _ (AVal.fn 9 _) _ _ _); refine vCall_pure (text9s_ac c hok T fr (getT hk)) ?_) | ((with_reducible show vcC _ 9 _ _ _); refine vcC_pure (text9s_ac c hok T fr (getT hk)) ?_) | ((with_reducible show vCall _ (AVal.fn 10 _) _ _ _); refine vCall_pure (read10s_ac _ (chB_size hok) (chan_back hok) (hvr.app _) (hmx.app _)) ?_) | ((with_reducible show vcC _ 10 _ _ _); refine vcC_pure (read10s_ac _ (chB_size hok) (chan_back hok) (hvr.app _) (hmx.app _)) ?_) | ((with_reducible show vCall _ (AVal.fn 11 _) _ _ _); refine vCall_pure (is17_ac c (by omega) (by omega) _) ?_) | ((with_reducible show vcC _ 11 _ _ _); refine vcC_pure (is17_ac c (by omega) (by omega) _) ?_) | ((with_reducible show vCall _ (AVal.fn 12 _) _ _ _); refine vCall_pure (nums12_ac c.1 (by omega) _) ?_) | ((with_reducible show vcC _ 12 _ _ _); refine vcC_pure (nums12_ac c.1 (by omega) _) ?_) | ((with_reducible show vCall _ (AVal.fn 12 _) _ _ _); refine vCall_pure (nums12_ac c.2 (by omega) _) ?_) | ((with_reducible show vcC _ 12 _ _ _); refine vcC_pure (nums12_ac c.2 (by omega) _) ?_) | (with_reducible first | refine And.intro (And.intro rfl rfl) ?_ | refine And.intro (by omega) ?_) | (with_reducible refine And.intro (fun hg => ?_) (fun hg => ?_) <;> first | simp only [eq_false hg, rsB] | simp only [eq_true hg, rsB] | simp only [hg, rsB]) | (with_reducible first | refine And.intro rfl (And.intro rfl rfl) | refine thenQ_n ?_ | refine thenQ_exit ?_ | refine thenQ_ret ?_ | refine midQ_ret ?_ | refine midQ_exit ?_ | refine blockQ_same ?_ | refine blockQ_ne (by decide) ?_ | refine blockQ_ret ?_ | refine blockQ_n ?_ | refine AW.exit ?_ | refine AW.block ?_ | refine AW.cond_t rfl ?_ | refine AW.cond_f rfl ?_ | refine AW.cond_dec rfl (fun hc => ?_) (fun hc => ?_)) | (with_reducible refine AW.cond rfl (fun hc => ?_) (fun hc => ?_) <;> try simp only [Bool.not_eq_eq_eq_not, Bool.not_true, Bool.not_false, decide_eq_true_eq, decide_eq_false_iff_not] at hc) | (with_reducible first | refine AW.seq ?_ | refine AW.skip ?_ | refine AW.ret ?_ | refine And.intro ?_ ?_) | (with_reducible intro hg; first | simp only [eq_false hg, rsB] | simp only [eq_true hg, rsB]) | (with_reducible refine retQ_drop ?_; simp only [vRes, packRes, vLoad, vPart, lk, cond, Nat.reduceBEq, get_loc, getD_zero, getD_succ, true_and, List.length_cons, List.length_nil, Nat.reduceAdd, Nat.reduceLT, Nat.reduceLeDiff, List.take_succ_cons, List.take_zero, List.drop_succ_cons, List.drop_zero, vvar_2, vzero_2, vknd_2, vsn_2, vvar_3, vzero_3, vknd_3, vsn_3, vvar_4, vzero_4, vknd_4, vsn_4, vvar_9, vzero_9, vknd_9, vsn_9, vsl_22, vkn_22, vvar_22, vzero_22, vbyt_22, vsl_24, vkn_24, vvar_24, vzero_24, vvar_26, vzero_26, vbld_26, vfld_26_0, vfld_26_1]) )
  all_goals first
    | (exfalso; omega)
    | skip
  refine AW.loop (fun i : Nat => lsO c H i) (fun i => i ≤ c.1.length) (fun i => c.1.length - i) 0 (Nat.zero_le _) ?_ ?_
  · unfold lsO
    exact (Weak.sel [0] hB (by decide) (by (repeat' (first | exact trivial | exact RenB.plRow rfl | exact RenB.dead _ | exact RenB.map _ _ | exact RenB.iter rfl | refine And.intro ?_ ?_ | (refine RenB.plBox ?_; (repeat' (first | exact Pl.v _ | exact Pl.junk | exact Pl.rd rfl _ | exact pl_nil | refine pl_cons ?_ ?_ | refine Pl.agg ?_ | refine Pl.tup ?_ | refine Pl.rp ?_ | refine Pl.fn ?_)); (first | done | fail)) | refine RenB.of ?_ | exact RenV.ptr rfl | exact RenV.sl rfl | exact RenV.mp rfl | exact RenV.it rfl | exact RenV.low (IdsLt.mp (by assumption)) | (refine RenV.pl ?_; (repeat' (first | exact Pl.v _ | exact Pl.junk | exact Pl.rd rfl _ | exact pl_nil | refine pl_cons ?_ ?_ | refine Pl.agg ?_ | refine Pl.tup ?_ | refine Pl.rp ?_ | refine Pl.fn ?_)); (first | done | fail)) | refine RenV.aggL ?_ | refine RenV.fnL ?_ | exact Nat.lt_of_sub_pos (by decide) | (simp; (first | done | fail)))); (first | done | fail)) (by (repeat' (first | exact trivial | exact RenV.ptr rfl | exact RenV.sl rfl | exact RenV.mp rfl | exact RenV.it rfl | exact RenV.low (IdsLt.mp (by assumption)) | exact RenV.low (.v _) | exact RenV.low (IdsLt.ptr (by assumption)) | (refine RenV.pl ?_; (repeat' (first | exact Pl.v _ | exact Pl.junk | exact Pl.rd rfl _ | exact pl_nil | refine pl_cons ?_ ?_ | refine Pl.agg ?_ | refine Pl.tup ?_ | refine Pl.rp ?_ | refine Pl.fn ?_)); (first | done | fail)) | refine RenV.fnL ?_ | refine RenV.aggL ?_ | refine And.intro ?_ ?_)); (first | done | fail)))
  intro i hi
  have hmb := mostTo_bnd c i
  unfold lsO
  by_cases hin : i < c.1.length
  ·
    repeat' (first | (with_reducible first | refine AW.sreg envOk fun K hK => ?_ | refine AW.region envOk fun K hK => ?_) | (with_reducible refine AW.d0reg envOk mixed ?_ ?_ fun K hK => ?_; (first | rfl | exact base_len | exact base_len0); kernel_rfl) | (with_reducible refine AW.d0 envOk mixed ?_ ?_ fun K hK => ?_; (first | rfl | exact base_len | exact base_len0); kernel_rfl) | (with_reducible first | refine vcD_nil ?_ | refine vcL_nil ?_) | (with_reducible (first | refine vcD_cons fun K' hK' => ?_ | refine vcL_cons fun K' hK' => ?_); simp only [isC, Bool.false_or, Bool.or_true, ↓reduceDIte, List.take_length, Nat.le_refl, List.drop_zero, vGuard, undef, Bool.not_eq_eq_eq_not, dstOk, vcOp, vcF, isPure, putS, vcCall, St.ev, St.put, lk, AVal.ofVal, initS, Nat.reduceLT, true_and, and_true, vBin, vUn, vPick, vPart, vLoad, vStore, vIdxA, vFldA, vExt, vLen, vAlloc, partsA, fillA, decAll, AVal.flat, AVal.cell, cellsOk, setRange, ETy.enc, ETy.dec, ETy.sz, ETy.d, cond, Nat.reduceBEq, Nat.reduceAdd, Int.toNat_natCast, List.length_set, List.length_append, List.length_replicate, List.length_take, Nat.reduceSub, Nat.reduceEqDiff, get_loc, setBox_loc, next_eq, List.length_cons, List.length_nil, List.map_cons, List.map_nil, List.append_nil, List.nil_append, List.cons_append, List.set_cons_zero, List.set_cons_succ, getD_zero, getD_succ, List.getElem?_cons_succ, List.getElem?_cons_zero, List.take_succ_cons, List.take_zero, List.drop_succ_cons, List.all_cons, List.all_nil, Bool.and_true, Bool.true_and, Option.bind_some, Option.map_some, Option.map_none, decide_eq_true_eq, decide_eq_false_iff_not, ne_eq, Bool.not_eq_true, Bool.not_eq_false, Decidable.not_not, not_true_eq_false, not_false_eq_true, forall_const, false_implies, Bool.true_eq_false, Bool.false_eq_true, reduceCtorEq, decide_true, decide_false, Bool.not_true, Bool.not_false, if_true, if_false, Nat.zero_add, Nat.lt_irrefl, Value.oneCell', gt_iff_lt, Nat.reduceLeDiff, Nat.lt_add_one, vvar_2, vzero_2, vknd_2, vsn_2, vvar_3, vzero_3, vknd_3, vsn_3, vvar_4, vzero_4, vknd_4, vsn_4, vvar_9, vzero_9, vknd_9, vsn_9, vsl_22, vkn_22, vvar_22, vzero_22, vbyt_22, vsl_24, vkn_24, vvar_24, vzero_24, vvar_26, vzero_26, vbld_26, vfld_26_0, vfld_26_1]; try simp (disch := omega) only [wrap64]) | (with_reducible refine hK' _ ?_; clear hK' K') | (with_reducible refine hK _ ?_; clear hK K) | (with_reducible first | refine And.intro (And.intro rfl rfl) ?_ | refine And.intro (by omega) ?_) | (with_reducible refine And.intro (fun hg => ?_) (fun hg => ?_) <;> first | simp only [eq_false hg, rsB] | simp only [eq_true hg, rsB] | simp only [hg, rsB]) | (with_reducible first | refine And.intro rfl (And.intro rfl rfl) | refine thenQ_n ?_ | refine thenQ_exit ?_ | refine thenQ_ret ?_ | refine midQ_ret ?_ | refine midQ_exit ?_ | refine blockQ_same ?_ | refine blockQ_ne (by decide) ?_ | refine blockQ_ret ?_ | refine blockQ_n ?_ | refine AW.exit ?_ | refine AW.block ?_ | refine AW.cond_t rfl ?_ | refine AW.cond_f rfl ?_ | refine AW.cond_dec rfl (fun hc => ?_) (fun hc => ?_)) | (with_reducible refine AW.cond rfl (fun hc => ?_) (fun hc => ?_) <;> try simp only [Bool.not_eq_eq_eq_not, Bool.not_true, Bool.not_false, decide_eq_true_eq, decide_eq_false_iff_not] at hc) | (with_reducible first | refine AW.seq ?_ | refine AW.skip ?_ | refine AW.ret ?_ | refine And.intro ?_ ?_) | (with_reducible intro hg; first | simp only [eq_false hg, rsB] | simp only [eq_true hg, rsB]) | (with_reducible refine retQ_drop ?_; simp only [vRes, packRes, vLoad, vPart, lk, cond, Nat.reduceBEq, get_loc, getD_zero, getD_succ, true_and, List.length_cons, List.length_nil, Nat.reduceAdd, Nat.reduceLT, Nat.reduceLeDiff, List.take_succ_cons, List.take_zero, List.drop_succ_cons, List.drop_zero, vvar_2, vzero_2, vknd_2, vsn_2, vvar_3, vzero_3, vknd_3, vsn_3, vvar_4, vzero_4, vknd_4, vsn_4, vvar_9, vzero_9, vknd_9, vsn_9, vsl_22, vkn_22, vvar_22, vzero_22, vbyt_22, vsl_24, vkn_24, vvar_24, vzero_24, vvar_26, vzero_26, vbld_26, vfld_26_0, vfld_26_1]) )
    all_goals first
      | (exfalso; omega)
      | skip
    refine AW.loop (fun k : Nat => lsI c H i k) (fun k => k ≤ (nets c).length) (fun k => (nets c).length - k) 0 (Nat.zero_le _) ?_ ?_
    · unfold lsI
      exact (Weak.slots (by repeat' first | exact trivial | exact ⟨rfl, trivial⟩ | refine ⟨rfl, ?_⟩))
    intro k hk2
    have hdb := densTo_bnd c (i : Int) k
    unfold lsI
    by_cases hkn : k < (nets c).length
    · have hxm := nets_getD c hkn
      have hsuc : densTo c (i : Int) (k + 1) = if (span c ((nets c).getD k 0)).1 ≤ (i : Int) ∧ (i : Int) ≤ (span c ((nets c).getD k 0)).2 then densTo c (i : Int) k + 1 else densTo c (i : Int) k := rfl
      obtain ⟨x, hxe⟩ : ∃ x, (nets c).getD k 0 = x := ⟨_, rfl⟩
      rw [hxe] at hxm hsuc
      obtain ⟨⟨s1, s2, s3⟩, s4⟩ := span_law c hxm
      obtain ⟨s5, s6⟩ := s4 i hin
      unfold HasC at s5 s6
      have hsp := fun G => span13s_ac c hok hxm G
      generalize (span c x).1 = lo at s1 s2 s3 s5 s6 hsuc hsp
      generalize (span c x).2 = hi at s1 s2 s3 s5 s6 hsuc hsp
      by_cases hT : c.1.getD i 0 = x
      · have s5' := s5 (.inl hT)
        repeat' (first | (with_reducible first | refine AW.sreg envOk fun K hK => ?_ | refine AW.region envOk fun K hK => ?_) | (with_reducible refine AW.d0reg envOk mixed ?_ ?_ fun K hK => ?_; (first | rfl | exact base_len | exact base_len0); kernel_rfl) | (with_reducible refine AW.d0 envOk mixed ?_ ?_ fun K hK => ?_; (first | rfl | exact base_len | exact base_len0); kernel_rfl) | (with_reducible first | refine vcD_nil ?_ | refine vcL_nil ?_) | (with_reducible (first | refine vcD_cons fun K' hK' => ?_ | refine vcL_cons fun K' hK' => ?_); simp only [isC, Bool.false_or, Bool.or_true, ↓reduceDIte, List.take_length, Nat.le_refl, List.drop_zero, vGuard, undef, Bool.not_eq_eq_eq_not, dstOk, vcOp, vcF, isPure, putS, vcCall, St.ev, St.put, lk, AVal.ofVal, initS, Nat.reduceLT, true_and, and_true, vBin, vUn, vPick, vPart, vLoad, vStore, vIdxA, vFldA, vExt, vLen, vAlloc, partsA, fillA, decAll, AVal.flat, AVal.cell, cellsOk, setRange, ETy.enc, ETy.dec, ETy.sz, ETy.d, cond, Nat.reduceBEq, Nat.reduceAdd, Int.toNat_natCast, List.length_set, List.length_append, List.length_replicate, List.length_take, Nat.reduceSub, Nat.reduceEqDiff, get_loc, setBox_loc, next_eq, List.length_cons, List.length_nil, List.map_cons, List.map_nil, List.append_nil, List.nil_append, List.cons_append, List.set_cons_zero, List.set_cons_succ, getD_zero, getD_succ, List.getElem?_cons_succ, List.getElem?_cons_zero, List.take_succ_cons, List.take_zero, List.drop_succ_cons, List.all_cons, List.all_nil, Bool.and_true, Bool.true_and, Option.bind_some, Option.map_some, Option.map_none, decide_eq_true_eq, decide_eq_false_iff_not, ne_eq, Bool.not_eq_true, Bool.not_eq_false, Decidable.not_not, not_true_eq_false, not_false_eq_true, forall_const, false_implies, Bool.true_eq_false, Bool.false_eq_true, reduceCtorEq, decide_true, decide_false, Bool.not_true, Bool.not_false, if_true, if_false, Nat.zero_add, Nat.lt_irrefl, Value.oneCell', gt_iff_lt, Nat.reduceLeDiff, Nat.lt_add_one, vvar_2, vzero_2, vknd_2, vsn_2, vvar_3, vzero_3, vknd_3, vsn_3, vvar_4, vzero_4, vknd_4, vsn_4, vvar_9, vzero_9, vknd_9, vsn_9, vsl_22, vkn_22, vvar_22, vzero_22, vbyt_22, vsl_24, vkn_24, vvar_24, vzero_24, vvar_26, vzero_26, vbld_26, vfld_26_0, vfld_26_1, hxe, hT]; try simp (disch := omega) only [wrap64]) | (with_reducible refine hK' _ ?_; clear hK' K') | (with_reducible refine hK _ ?_; clear hK K) | ((with_reducible show vCall _ (AVal.fn 13 _) _ _ _); refine vCall_pure (hsp _) ?_) | ((with_reducible show vcC _ 13 _ _ _); refine vcC_pure (hsp _) ?_) | (with_reducible first | refine And.intro (And.intro rfl rfl) ?_ | refine And.intro (by omega) ?_) | (with_reducible refine And.intro (fun hg => ?_) (fun hg => ?_) <;> first | simp only [eq_false hg, rsB] | simp only [eq_true hg, rsB] | simp only [hg, rsB]) | (with_reducible first | refine And.intro rfl (And.intro rfl rfl) | refine thenQ_n ?_ | refine thenQ_exit ?_ | refine thenQ_ret ?_ | refine midQ_ret ?_ | refine midQ_exit ?_ | refine blockQ_same ?_ | refine blockQ_ne (by decide) ?_ | refine blockQ_ret ?_ | refine blockQ_n ?_ | refine AW.exit ?_ | refine AW.block ?_ | refine AW.cond_t rfl ?_ | refine AW.cond_f rfl ?_ | refine AW.cond_dec rfl (fun hc => ?_) (fun hc => ?_)) | (with_reducible refine AW.cond rfl (fun hc => ?_) (fun hc => ?_) <;> try simp only [Bool.not_eq_eq_eq_not, Bool.not_true, Bool.not_false, decide_eq_true_eq, decide_eq_false_iff_not] at hc) | (with_reducible first | refine AW.seq ?_ | refine AW.skip ?_ | refine AW.ret ?_ | refine And.intro ?_ ?_) | (with_reducible intro hg; first | simp only [eq_false hg, rsB] | simp only [eq_true hg, rsB]) | (with_reducible refine retQ_drop ?_; simp only [vRes, packRes, vLoad, vPart, lk, cond, Nat.reduceBEq, get_loc, getD_zero, getD_succ, true_and, List.length_cons, List.length_nil, Nat.reduceAdd, Nat.reduceLT, Nat.reduceLeDiff, List.take_succ_cons, List.take_zero, List.drop_succ_cons, List.drop_zero, vvar_2, vzero_2, vknd_2, vsn_2, vvar_3, vzero_3, vknd_3, vsn_3, vvar_4, vzero_4, vknd_4, vsn_4, vvar_9, vzero_9, vknd_9, vsn_9, vsl_22, vkn_22, vvar_22, vzero_22, vbyt_22, vsl_24, vkn_24, vvar_24, vzero_24, vvar_26, vzero_26, vbld_26, vfld_26_0, vfld_26_1]) )
        all_goals first
          | (exfalso; omega)
          | (refine ⟨k + 1, by omega, by omega, ?_⟩
             rw [hsuc, if_pos (by omega)]
             exact (Weak.slots (by repeat' first | exact trivial | exact ⟨rfl, trivial⟩ | refine ⟨rfl, ?_⟩)))
          | skip
      · by_cases hU : c.2.getD i 0 = x
        · have s5' := s5 (.inr hU)
          repeat' (first | (with_reducible first | refine AW.sreg envOk fun K hK => ?_ | refine AW.region envOk fun K hK => ?_) | (with_reducible refine AW.d0reg envOk mixed ?_ ?_ fun K hK => ?_; (first | rfl | exact base_len | exact base_len0); kernel_rfl) | (with_reducible refine AW.d0 envOk mixed ?_ ?_ fun K hK => ?_; (first | rfl | exact base_len | exact base_len0); kernel_rfl) | (with_reducible first | refine vcD_nil ?_ | refine vcL_nil ?_) | (with_reducible (first | refine vcD_cons fun K' hK' => ?_ | refine vcL_cons fun K' hK' => ?_); simp only [isC, Bool.false_or, Bool.or_true, ↓reduceDIte, List.take_length, Nat.le_refl, List.drop_zero, vGuard, undef, Bool.not_eq_eq_eq_not, dstOk, vcOp, vcF, isPure, putS, vcCall, St.ev, St.put, lk, AVal.ofVal, initS, Nat.reduceLT, true_and, and_true, vBin, vUn, vPick, vPart, vLoad, vStore, vIdxA, vFldA, vExt, vLen, vAlloc, partsA, fillA, decAll, AVal.flat, AVal.cell, cellsOk, setRange, ETy.enc, ETy.dec, ETy.sz, ETy.d, cond, Nat.reduceBEq, Nat.reduceAdd, Int.toNat_natCast, List.length_set, List.length_append, List.length_replicate, List.length_take, Nat.reduceSub, Nat.reduceEqDiff, get_loc, setBox_loc, next_eq, List.length_cons, List.length_nil, List.map_cons, List.map_nil, List.append_nil, List.nil_append, List.cons_append, List.set_cons_zero, List.set_cons_succ, getD_zero, getD_succ, List.getElem?_cons_succ, List.getElem?_cons_zero, List.take_succ_cons, List.take_zero, List.drop_succ_cons, List.all_cons, List.all_nil, Bool.and_true, Bool.true_and, Option.bind_some, Option.map_some, Option.map_none, decide_eq_true_eq, decide_eq_false_iff_not, ne_eq, Bool.not_eq_true, Bool.not_eq_false, Decidable.not_not, not_true_eq_false, not_false_eq_true, forall_const, false_implies, Bool.true_eq_false, Bool.false_eq_true, reduceCtorEq, decide_true, decide_false, Bool.not_true, Bool.not_false, if_true, if_false, Nat.zero_add, Nat.lt_irrefl, Value.oneCell', gt_iff_lt, Nat.reduceLeDiff, Nat.lt_add_one, vvar_2, vzero_2, vknd_2, vsn_2, vvar_3, vzero_3, vknd_3, vsn_3, vvar_4, vzero_4, vknd_4, vsn_4, vvar_9, vzero_9, vknd_9, vsn_9, vsl_22, vkn_22, vvar_22, vzero_22, vbyt_22, vsl_24, vkn_24, vvar_24, vzero_24, vvar_26, vzero_26, vbld_26, vfld_26_0, vfld_26_1, hxe, hT, hU]; try simp (disch := omega) only [wrap64]) | (with_reducible refine hK' _ ?_; clear hK' K') | (with_reducible refine hK _ ?_; clear hK K) | ((with_reducible show vCall _ (AVal.fn 13 _) _ _ _); refine vCall_pure (hsp _) ?_) | ((with_reducible show vcC _ 13 _ _ _); refine vcC_pure (hsp _) ?_) | (with_reducible first | refine And.intro (And.intro rfl rfl) ?_ | refine And.intro (by omega) ?_) | (with_reducible refine And.intro (fun hg => ?_) (fun hg => ?_) <;> first | simp only [eq_false hg, rsB] | simp only [eq_true hg, rsB] | simp only [hg, rsB]) | (with_reducible first | refine And.intro rfl (And.intro rfl rfl) | refine thenQ_n ?_ | refine thenQ_exit ?_ | refine thenQ_ret ?_ | refine midQ_ret ?_ | refine midQ_exit ?_ | refine blockQ_same ?_ | refine blockQ_ne (by decide) ?_ | refine blockQ_ret ?_ | refine blockQ_n ?_ | refine AW.exit ?_ | refine AW.block ?_ | refine AW.cond_t rfl ?_ | refine AW.cond_f rfl ?_ | refine AW.cond_dec rfl (fun hc => ?_) (fun hc => ?_)) | (with_reducible refine AW.cond rfl (fun hc => ?_) (fun hc => ?_) <;> try simp only [Bool.not_eq_eq_eq_not, Bool.not_true, Bool.not_false, decide_eq_true_eq, decide_eq_false_iff_not] at hc) | (with_reducible first | refine AW.seq ?_ | refine AW.skip ?_ | refine AW.ret ?_ | refine And.intro ?_ ?_) | (with_reducible intro hg; first | simp only [eq_false hg, rsB] | simp only [eq_true hg, rsB]) | (with_reducible refine retQ_drop ?_; simp only [vRes, packRes, vLoad, vPart, lk, cond, Nat.reduceBEq, get_loc, getD_zero, getD_succ, true_and, List.length_cons, List.length_nil, Nat.reduceAdd, Nat.reduceLT, Nat.reduceLeDiff, List.take_succ_cons, List.take_zero, List.drop_succ_cons, List.drop_zero, vvar_2, vzero_2, vknd_2, vsn_2, vvar_3, vzero_3, vknd_3, vsn_3, vvar_4, vzero_4, vknd_4, vsn_4, vvar_9, vzero_9, vknd_9, vsn_9, vsl_22, vkn_22, vvar_22, vzero_22, vbyt_22, vsl_24, vkn_24, vvar_24, vzero_24, vvar_26, vzero_26, vbld_26, vfld_26_0, vfld_26_1]) )
          all_goals first
            | (exfalso; omega)
            | (refine ⟨k + 1, by omega, by omega, ?_⟩
               rw [hsuc, if_pos (by omega)]
               exact (Weak.slots (by repeat' first | exact trivial | exact ⟨rfl, trivial⟩ | refine ⟨rfl, ?_⟩)))
            | skip
        · have s6' : ¬ ((i : Int) = lo ∨ (i : Int) = hi) := fun h => by
            rcases s6 h with h | h
            · exact hT h
            · exact hU h
          repeat' (first | (with_reducible first | refine AW.sreg envOk fun K hK => ?_ | refine AW.region envOk fun K hK => ?_) | (with_reducible refine AW.d0reg envOk mixed ?_ ?_ fun K hK => ?_; (first | rfl | exact base_len | exact base_len0); kernel_rfl) | (with_reducible refine AW.d0 envOk mixed ?_ ?_ fun K hK => ?_; (first | rfl | exact base_len | exact base_len0); kernel_rfl) | (with_reducible first | refine vcD_nil ?_ | refine vcL_nil ?_) | (with_reducible (first | refine vcD_cons fun K' hK' => ?_ | refine vcL_cons fun K' hK' => ?_); simp only [isC, Bool.false_or, Bool.or_true, ↓reduceDIte, List.take_length, Nat.le_refl, List.drop_zero, vGuard, undef, Bool.not_eq_eq_eq_not, dstOk, vcOp, vcF, isPure, putS, vcCall, St.ev, St.put, lk, AVal.ofVal, initS, Nat.reduceLT, true_and, and_true, vBin, vUn, vPick, vPart, vLoad, vStore, vIdxA, vFldA, vExt, vLen, vAlloc, partsA, fillA, decAll, AVal.flat, AVal.cell, cellsOk, setRange, ETy.enc, ETy.dec, ETy.sz, ETy.d, cond, Nat.reduceBEq, Nat.reduceAdd, Int.toNat_natCast, List.length_set, List.length_append, List.length_replicate, List.length_take, Nat.reduceSub, Nat.reduceEqDiff, get_loc, setBox_loc, next_eq, List.length_cons, List.length_nil, List.map_cons, List.map_nil, List.append_nil, List.nil_append, List.cons_append, List.set_cons_zero, List.set_cons_succ, getD_zero, getD_succ, List.getElem?_cons_succ, List.getElem?_cons_zero, List.take_succ_cons, List.take_zero, List.drop_succ_cons, List.all_cons, List.all_nil, Bool.and_true, Bool.true_and, Option.bind_some, Option.map_some, Option.map_none, decide_eq_true_eq, decide_eq_false_iff_not, ne_eq, Bool.not_eq_true, Bool.not_eq_false, Decidable.not_not, not_true_eq_false, not_false_eq_true, forall_const, false_implies, Bool.true_eq_false, Bool.false_eq_true, reduceCtorEq, decide_true, decide_false, Bool.not_true, Bool.not_false, if_true, if_false, Nat.zero_add, Nat.lt_irrefl, Value.oneCell', gt_iff_lt, Nat.reduceLeDiff, Nat.lt_add_one, vvar_2, vzero_2, vknd_2, vsn_2, vvar_3, vzero_3, vknd_3, vsn_3, vvar_4, vzero_4, vknd_4, vsn_4, vvar_9, vzero_9, vknd_9, vsn_9, vsl_22, vkn_22, vvar_22, vzero_22, vbyt_22, vsl_24, vkn_24, vvar_24, vzero_24, vvar_26, vzero_26, vbld_26, vfld_26_0, vfld_26_1, hxe, hT, hU]; try simp (disch := omega) only [wrap64]) | (with_reducible refine hK' _ ?_; clear hK' K') | (with_reducible refine hK _ ?_; clear hK K) | ((with_reducible show vCall _ (AVal.fn 13 _) _ _ _); refine vCall_pure (hsp _) ?_) | ((with_reducible show vcC _ 13 _ _ _); refine vcC_pure (hsp _) ?_) | (with_reducible first | refine And.intro (And.intro rfl rfl) ?_ | refine And.intro (by omega) ?_) | (with_reducible refine And.intro (fun hg => ?_) (fun hg => ?_) <;> first | simp only [eq_false hg, rsB] | simp only [eq_true hg, rsB] | simp only [hg, rsB]) | (with_reducible first | refine And.intro rfl (And.intro rfl rfl) | refine thenQ_n ?_ | refine thenQ_exit ?_ | refine thenQ_ret ?_ | refine midQ_ret ?_ | refine midQ_exit ?_ | refine blockQ_same ?_ | refine blockQ_ne (by decide) ?_ | refine blockQ_ret ?_ | refine blockQ_n ?_ | refine AW.exit ?_ | refine AW.block ?_ | refine AW.cond_t rfl ?_ | refine AW.cond_f rfl ?_ | refine AW.cond_dec rfl (fun hc => ?_) (fun hc => ?_)) | (with_reducible refine AW.cond rfl (fun hc => ?_) (fun hc => ?_) <;> try simp only [Bool.not_eq_eq_eq_not, Bool.not_true, Bool.not_false, decide_eq_true_eq, decide_eq_false_iff_not] at hc) | (with_reducible first | refine AW.seq ?_ | refine AW.skip ?_ | refine AW.ret ?_ | refine And.intro ?_ ?_) | (with_reducible intro hg; first | simp only [eq_false hg, rsB] | simp only [eq_true hg, rsB]) | (with_reducible refine retQ_drop ?_; simp only [vRes, packRes, vLoad, vPart, lk, cond, Nat.reduceBEq, get_loc, getD_zero, getD_succ, true_and, List.length_cons, List.length_nil, Nat.reduceAdd, Nat.reduceLT, Nat.reduceLeDiff, List.take_succ_cons, List.take_zero, List.drop_succ_cons, List.drop_zero, vvar_2, vzero_2, vknd_2, vsn_2, vvar_3, vzero_3, vknd_3, vsn_3, vvar_4, vzero_4, vknd_4, vsn_4, vvar_9, vzero_9, vknd_9, vsn_9, vsl_22, vkn_22, vvar_22, vzero_22, vbyt_22, vsl_24, vkn_24, vvar_24, vzero_24, vvar_26, vzero_26, vbld_26, vfld_26_0, vfld_26_1]) )
          all_goals first
            | (exfalso; omega)
            | (refine ⟨k + 1, by omega, by omega, ?_⟩
               first
                 | (rw [hsuc, if_pos (by omega)]; exact (Weak.slots (by repeat' first | exact trivial | exact ⟨rfl, trivial⟩ | refine ⟨rfl, ?_⟩)))
                 | (rw [hsuc, if_neg (by omega)]; exact (Weak.slots (by repeat' first | exact trivial | exact ⟨rfl, trivial⟩ | refine ⟨rfl, ?_⟩))))
            | skip
    · obtain rfl : k = (nets c).length := by omega
      have hde : densTo c (i : Int) (nets c).length = dens c (i : Int) := rfl
      have hms : mostTo c (i + 1) = max (mostTo c i) (dens c (i : Int)) := rfl
      rw [hde] at hdb ⊢
      repeat' (first | (with_reducible first | refine AW.sreg envOk fun K hK => ?_ | refine AW.region envOk fun K hK => ?_) | (with_reducible refine AW.d0reg envOk mixed ?_ ?_ fun K hK => ?_; (first | rfl | exact base_len | exact base_len0); kernel_rfl) | (with_reducible refine AW.d0 envOk mixed ?_ ?_ fun K hK => ?_; (first | rfl | exact base_len | exact base_len0); kernel_rfl) | (with_reducible first | refine vcD_nil ?_ | refine vcL_nil ?_) | (with_reducible (first | refine vcD_cons fun K' hK' => ?_ | refine vcL_cons fun K' hK' => ?_); simp only [isC, Bool.false_or, Bool.or_true, ↓reduceDIte, List.take_length, Nat.le_refl, List.drop_zero, vGuard, undef, Bool.not_eq_eq_eq_not, dstOk, vcOp, vcF, isPure, putS, vcCall, St.ev, St.put, lk, AVal.ofVal, initS, Nat.reduceLT, true_and, and_true, vBin, vUn, vPick, vPart, vLoad, vStore, vIdxA, vFldA, vExt, vLen, vAlloc, partsA, fillA, decAll, AVal.flat, AVal.cell, cellsOk, setRange, ETy.enc, ETy.dec, ETy.sz, ETy.d, cond, Nat.reduceBEq, Nat.reduceAdd, Int.toNat_natCast, List.length_set, List.length_append, List.length_replicate, List.length_take, Nat.reduceSub, Nat.reduceEqDiff, get_loc, setBox_loc, next_eq, List.length_cons, List.length_nil, List.map_cons, List.map_nil, List.append_nil, List.nil_append, List.cons_append, List.set_cons_zero, List.set_cons_succ, getD_zero, getD_succ, List.getElem?_cons_succ, List.getElem?_cons_zero, List.take_succ_cons, List.take_zero, List.drop_succ_cons, List.all_cons, List.all_nil, Bool.and_true, Bool.true_and, Option.bind_some, Option.map_some, Option.map_none, decide_eq_true_eq, decide_eq_false_iff_not, ne_eq, Bool.not_eq_true, Bool.not_eq_false, Decidable.not_not, not_true_eq_false, not_false_eq_true, forall_const, false_implies, Bool.true_eq_false, Bool.false_eq_true, reduceCtorEq, decide_true, decide_false, Bool.not_true, Bool.not_false, if_true, if_false, Nat.zero_add, Nat.lt_irrefl, Value.oneCell', gt_iff_lt, Nat.reduceLeDiff, Nat.lt_add_one, vvar_2, vzero_2, vknd_2, vsn_2, vvar_3, vzero_3, vknd_3, vsn_3, vvar_4, vzero_4, vknd_4, vsn_4, vvar_9, vzero_9, vknd_9, vsn_9, vsl_22, vkn_22, vvar_22, vzero_22, vbyt_22, vsl_24, vkn_24, vvar_24, vzero_24, vvar_26, vzero_26, vbld_26, vfld_26_0, vfld_26_1]; try simp (disch := omega) only [wrap64]) | (with_reducible refine hK' _ ?_; clear hK' K') | (with_reducible refine hK _ ?_; clear hK K) | ((with_reducible show vCall _ (AVal.fn 14 _) _ _ _); refine vCall_pure (dens14s_ac c hok hin _) ?_) | ((with_reducible show vcC _ 14 _ _ _); refine vcC_pure (dens14s_ac c hok hin _) ?_) | (with_reducible first | refine And.intro (And.intro rfl rfl) ?_ | refine And.intro (by omega) ?_) | (with_reducible refine And.intro (fun hg => ?_) (fun hg => ?_) <;> first | simp only [eq_false hg, rsB] | simp only [eq_true hg, rsB] | simp only [hg, rsB]) | (with_reducible first | refine And.intro rfl (And.intro rfl rfl) | refine thenQ_n ?_ | refine thenQ_exit ?_ | refine thenQ_ret ?_ | refine midQ_ret ?_ | refine midQ_exit ?_ | refine blockQ_same ?_ | refine blockQ_ne (by decide) ?_ | refine blockQ_ret ?_ | refine blockQ_n ?_ | refine AW.exit ?_ | refine AW.block ?_ | refine AW.cond_t rfl ?_ | refine AW.cond_f rfl ?_ | refine AW.cond_dec rfl (fun hc => ?_) (fun hc => ?_)) | (with_reducible refine AW.cond rfl (fun hc => ?_) (fun hc => ?_) <;> try simp only [Bool.not_eq_eq_eq_not, Bool.not_true, Bool.not_false, decide_eq_true_eq, decide_eq_false_iff_not] at hc) | (with_reducible first | refine AW.seq ?_ | refine AW.skip ?_ | refine AW.ret ?_ | refine And.intro ?_ ?_) | (with_reducible intro hg; first | simp only [eq_false hg, rsB] | simp only [eq_true hg, rsB]) | (with_reducible refine retQ_drop ?_; simp only [vRes, packRes, vLoad, vPart, lk, cond, Nat.reduceBEq, get_loc, getD_zero, getD_succ, true_and, List.length_cons, List.length_nil, Nat.reduceAdd, Nat.reduceLT, Nat.reduceLeDiff, List.take_succ_cons, List.take_zero, List.drop_succ_cons, List.drop_zero, vvar_2, vzero_2, vknd_2, vsn_2, vvar_3, vzero_3, vknd_3, vsn_3, vvar_4, vzero_4, vknd_4, vsn_4, vvar_9, vzero_9, vknd_9, vsn_9, vsl_22, vkn_22, vvar_22, vzero_22, vbyt_22, vsl_24, vkn_24, vvar_24, vzero_24, vvar_26, vzero_26, vbld_26, vfld_26_0, vfld_26_1]) )
      all_goals first
        | (exfalso; omega)
        | contradiction
        | (refine ⟨i + 1, by omega, by omega, ?_⟩
           rw [hms]
           first
             | (rw [show max (mostTo c i) (dens c (i : Int)) = dens c (i : Int) by omega]; exact (Weak.slots (by repeat' first | exact trivial | exact ⟨rfl, trivial⟩ | refine ⟨rfl, ?_⟩)))
             | (rw [show max (mostTo c i) (dens c (i : Int)) = mostTo c i by omega]; exact (Weak.slots (by repeat' first | exact trivial | exact ⟨rfl, trivial⟩ | refine ⟨rfl, ?_⟩))))
        | skip
  · obtain rfl : i = c.1.length := by omega
    have hme : mostTo c c.1.length = most c := rfl
    rw [hme]
    repeat' (first | (with_reducible first | refine AW.sreg envOk fun K hK => ?_ | refine AW.region envOk fun K hK => ?_) | (with_reducible refine AW.d0reg envOk mixed ?_ ?_ fun K hK => ?_; (first | rfl | exact base_len | exact base_len0); kernel_rfl) | (with_reducible refine AW.d0 envOk mixed ?_ ?_ fun K hK => ?_; (first | rfl | exact base_len | exact base_len0); kernel_rfl) | (with_reducible first | refine vcD_nil ?_ | refine vcL_nil ?_) | (with_reducible (first | refine vcD_cons fun K' hK' => ?_ | refine vcL_cons fun K' hK' => ?_); simp only [isC, Bool.false_or, Bool.or_true, ↓reduceDIte, List.take_length, Nat.le_refl, List.drop_zero, vGuard, undef, Bool.not_eq_eq_eq_not, dstOk, vcOp, vcF, isPure, putS, vcCall, St.ev, St.put, lk, AVal.ofVal, initS, Nat.reduceLT, true_and, and_true, vBin, vUn, vPick, vPart, vLoad, vStore, vIdxA, vFldA, vExt, vLen, vAlloc, partsA, fillA, decAll, AVal.flat, AVal.cell, cellsOk, setRange, ETy.enc, ETy.dec, ETy.sz, ETy.d, cond, Nat.reduceBEq, Nat.reduceAdd, Int.toNat_natCast, List.length_set, List.length_append, List.length_replicate, List.length_take, Nat.reduceSub, Nat.reduceEqDiff, get_loc, setBox_loc, next_eq, List.length_cons, List.length_nil, List.map_cons, List.map_nil, List.append_nil, List.nil_append, List.cons_append, List.set_cons_zero, List.set_cons_succ, getD_zero, getD_succ, List.getElem?_cons_succ, List.getElem?_cons_zero, List.take_succ_cons, List.take_zero, List.drop_succ_cons, List.all_cons, List.all_nil, Bool.and_true, Bool.true_and, Option.bind_some, Option.map_some, Option.map_none, decide_eq_true_eq, decide_eq_false_iff_not, ne_eq, Bool.not_eq_true, Bool.not_eq_false, Decidable.not_not, not_true_eq_false, not_false_eq_true, forall_const, false_implies, Bool.true_eq_false, Bool.false_eq_true, reduceCtorEq, decide_true, decide_false, Bool.not_true, Bool.not_false, if_true, if_false, Nat.zero_add, Nat.lt_irrefl, Value.oneCell', gt_iff_lt, Nat.reduceLeDiff, Nat.lt_add_one, vvar_2, vzero_2, vknd_2, vsn_2, vvar_3, vzero_3, vknd_3, vsn_3, vvar_4, vzero_4, vknd_4, vsn_4, vvar_9, vzero_9, vknd_9, vsn_9, vsl_22, vkn_22, vvar_22, vzero_22, vbyt_22, vsl_24, vkn_24, vvar_24, vzero_24, vvar_26, vzero_26, vbld_26, vfld_26_0, vfld_26_1]; try simp (disch := omega) only [wrap64]) | (with_reducible refine hK' _ ?_; clear hK' K') | (with_reducible refine hK _ ?_; clear hK K) | (with_reducible first | refine And.intro (And.intro rfl rfl) ?_ | refine And.intro (by omega) ?_) | (with_reducible refine And.intro (fun hg => ?_) (fun hg => ?_) <;> first | simp only [eq_false hg, rsB] | simp only [eq_true hg, rsB] | simp only [hg, rsB]) | (with_reducible first | refine And.intro rfl (And.intro rfl rfl) | refine thenQ_n ?_ | refine thenQ_exit ?_ | refine thenQ_ret ?_ | refine midQ_ret ?_ | refine midQ_exit ?_ | refine blockQ_same ?_ | refine blockQ_ne (by decide) ?_ | refine blockQ_ret ?_ | refine blockQ_n ?_ | refine AW.exit ?_ | refine AW.block ?_ | refine AW.cond_t rfl ?_ | refine AW.cond_f rfl ?_ | refine AW.cond_dec rfl (fun hc => ?_) (fun hc => ?_)) | (with_reducible refine AW.cond rfl (fun hc => ?_) (fun hc => ?_) <;> try simp only [Bool.not_eq_eq_eq_not, Bool.not_true, Bool.not_false, decide_eq_true_eq, decide_eq_false_iff_not] at hc) | (with_reducible first | refine AW.seq ?_ | refine AW.skip ?_ | refine AW.ret ?_ | refine And.intro ?_ ?_) | (with_reducible intro hg; first | simp only [eq_false hg, rsB] | simp only [eq_true hg, rsB]) | (with_reducible refine retQ_drop ?_; simp only [vRes, packRes, vLoad, vPart, lk, cond, Nat.reduceBEq, get_loc, getD_zero, getD_succ, true_and, List.length_cons, List.length_nil, Nat.reduceAdd, Nat.reduceLT, Nat.reduceLeDiff, List.take_succ_cons, List.take_zero, List.drop_succ_cons, List.drop_zero, vvar_2, vzero_2, vknd_2, vsn_2, vvar_3, vzero_3, vknd_3, vsn_3, vvar_4, vzero_4, vknd_4, vsn_4, vvar_9, vzero_9, vknd_9, vsn_9, vsl_22, vkn_22, vvar_22, vzero_22, vbyt_22, vsl_24, vkn_24, vvar_24, vzero_24, vvar_26, vzero_26, vbld_26, vfld_26_0, vfld_26_1]) )
    all_goals first
      | (exfalso; omega)
      | exact ⟨_, _, FinOk.drop hB (.v _), rfl⟩
      | skip
end Go.Proofs.YtmkcahfhnehanaaDoor
end

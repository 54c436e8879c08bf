/- Texts of this seat that the law stands on, put together. No conditions. -/
import Derived.Lib.ParseIntBCases
import Derived.Lib.ParseIntBTie
import Derived.Shelf.Strconv.ParseIntPublic10
import Derived.Lib.SplitLaws
import Derived.Shelf.Strings.Cut
import Derived.Shelf.Strings.Split
import Derived.Test.YtlgagjboijkpgaaDoorM13
section
set_option linter.unusedSimpArgs false
set_option linter.unusedVariables false
set_option linter.unusedSimpArgs false
set_option linter.unusedVariables false
set_option linter.unusedSimpArgs false
set_option linter.unusedVariables false
set_option maxHeartbeats 1000000
set_option linter.unusedSimpArgs false
set_option linter.unusedVariables false
set_option maxHeartbeats 1000000
set_option linter.unusedSimpArgs false
set_option linter.unusedVariables false
set_option linter.unusedSimpArgs false
set_option linter.unusedVariables false
set_option linter.unusedSimpArgs false
set_option linter.unusedVariables false
set_option maxHeartbeats 1000000
set_option linter.unusedSimpArgs false
set_option linter.unusedVariables false
set_option maxHeartbeats 1000000
set_option linter.unusedSimpArgs false
set_option linter.unusedVariables false
set_option maxHeartbeats 1000000
set_option linter.unusedSimpArgs false
set_option linter.unusedVariables false
/- The plain law of reading decimals; no program in sight. -/
namespace Go.Proofs.YtlgagjboijkpgaaDoor
open Go.Lib Go.Eng
/-- A digit read behind a number. -/
def dstep (n : Int) (c : UInt8) : Int := if 48 ≤ c.toNat ∧ c.toNat ≤ 57 then 10 * n + ((c.toNat : Int) - 48) else n
def digs (n : Int) (l : List UInt8) : Int := l.foldl dstep n
theorem digs_snoc (n : Int) (l : List UInt8) (c : UInt8) : digs n (l ++ [c]) = dstep (digs n l) c := by simp [digs]
theorem dstep_digit (n : Int) (r : Nat) (h : r < 10) : dstep n (UInt8.ofNat (48 + r)) = 10 * n + r := by
  unfold dstep
  rw [UInt8.toNat_ofNat', Nat.mod_eq_of_lt (by omega), if_pos (by omega)]
  omega
theorem digs_dec : ∀ (u : Nat), digs 0 (decDigits u) = u := by
  intro u
  induction u using Nat.strongRecOn with
  | _ u ih =>
    by_cases h : u < 10
    · rw [decDigits_small h]
      show dstep 0 _ = _
      rw [dstep_digit 0 u h]; omega
    · rw [decDigits_big h, digs_snoc, ih (u / 10) (by omega), dstep_digit _ _ (by omega)]
      omega
theorem digs_itoa (n : Int) : digs 0 (itoa n) = n.natAbs := by
  rw [itoa_abs]
  split
  · have e : digs 0 (45 :: decDigits n.natAbs) = digs (dstep 0 45) (decDigits n.natAbs) := rfl
    rw [e, show dstep 0 45 = 0 by decide, digs_dec]
  · exact digs_dec _
theorem decDigits_head (u : Nat) : ∃ (d : Nat) (r : List UInt8), d < 10 ∧ decDigits u = UInt8.ofNat (48 + d) :: r := by
  induction u using Nat.strongRecOn with
  | _ u ih =>
    by_cases h : u < 10
    · exact ⟨u, [], h, decDigits_small h⟩
    · obtain ⟨d, r, h1, h2⟩ := ih (u / 10) (by omega)
      exact ⟨d, r ++ [UInt8.ofNat (48 + u % 10)], h1, by rw [decDigits_big h, h2]; rfl⟩
/-- A text that is that number's. -/
def IsDec (s : ByteArray) (n : Int) : Prop := (-1000000000 ≤ n ∧ n ≤ 1000000000) ∧ (⟨(itoa n).toArray⟩ : ByteArray) = s
instance (s : ByteArray) (n : Int) : Decidable (IsDec s n) := by unfold IsDec; exact inferInstance
def dsum (s : ByteArray) : Int := if s.size ≤ 11 then digs 0 s.data.toList else 0
/-- What the reference reads first. -/
def rdN (s : ByteArray) : Int := if 0 < s.size ∧ byteAt s 0 = 45 then -dsum s else dsum s
/-- The number of a text. -/
def rd (s : ByteArray) : Option Int := if IsDec s (rdN s) then some (rdN s) else none
theorem itoa_len11 {n : Int} (h : -1000000000 ≤ n ∧ n ≤ 1000000000) : (itoa n).length ≤ 11 := by
  rw [itoa_abs]
  have := nDigits_le 9 n.natAbs (by omega)
  split
  · simp [decDigits_length]; omega
  · rw [decDigits_length]; omega
theorem IsDec.rdN {s : ByteArray} {n : Int} (h : IsDec s n) : rdN s = n := by
  obtain ⟨hr, rfl⟩ := h
  have hl := itoa_len11 hr
  have hs : (⟨(itoa n).toArray⟩ : ByteArray).size = (itoa n).length := bsz _
  have hd : dsum ⟨(itoa n).toArray⟩ = n.natAbs := by
    unfold dsum
    rw [hs, if_pos hl]
    exact digs_itoa n
  unfold Go.Proofs.YtlgagjboijkpgaaDoor.rdN
  rw [hd, hs]
  by_cases hn : n < 0
  · have e : itoa n = 45 :: decDigits n.natAbs := by rw [itoa_abs, if_pos hn]
    rw [if_pos ⟨by rw [e]; simp, by rw [e]; rfl⟩]
    omega
  · obtain ⟨d, r, hd', e⟩ := decDigits_head n.natAbs
    have e2 : itoa n = UInt8.ofNat (48 + d) :: r := by rw [itoa_abs, if_neg hn, e]
    have ed : (UInt8.ofNat (48 + d)).toNat = 48 + d := by rw [UInt8.toNat_ofNat', Nat.mod_eq_of_lt (by omega)]
    rw [if_neg (fun h => by
      have h2 := h.2
      rw [e2] at h2
      have h3 : ((UInt8.ofNat (48 + d)).toNat : Int) = 45 := h2
      rw [ed] at h3; omega)]
    omega
end Go.Proofs.YtlgagjboijkpgaaDoor
/- strconv.ParseInt at base 10, 64 bits: the library's contract, laid at this program; as a contract here. -/
namespace Go.Proofs.YtlgagjboijkpgaaDoor
open Go.Shelf Go.RowKit Go.Lib Go.Sort Go.Proofs Go.Eng
def lays174_ren : Go.Shelf.Ren := ⟨fun | 174 => 55 | 247 => 89 | 245 => 90 | 287 => 108 | 279 => 109 | 280 => 110 | 281 => 111 | 282 => 112 | 321 => 127 | 322 => 128 | 316 => 129 | 171 => 131 | 205 => 130 | 243 => 143 | 246 => 87 | 283 => 104 | 284 => 105 | 285 => 106 | 286 => 107 | 129 => 123 | 317 => 122 | 318 => 124 | 319 => 125 | 320 => 126 | 337 => 141 | 338 => 142 | n => n, fun | 9 => 9 | 3 => 3 | 2 => 2 | 75 => 71 | 85 => 72 | 4 => 4 | 167 => 125 | 5 => 5 | 53 => 120 | 175 => 126 | 46 => 128 | 168 => 129 | 37 => 101 | 0 => 0 | 210 => 147 | 21 => 21 | 127 => 134 | 145 => 159 | 143 => 157 | 171 => 119 | 173 => 123 | 212 => 139 | 51 => 140 | 20 => 20 | 213 => 141 | 232 => 162 | 233 => 163 | 80 => 114 | n => n, fun | 15 => 1 | 16 => 2 | 17 => 0 | 18 => 4 | 19 => 5 | n => n⟩
theorem lays174 : Go.Proofs.LaysC.n174 Tryd.prog lays174_ren := {
  mixed := by kernel_rfl
  f129 := Tryd.func123.trans (congrArg some (by kernel_rfl))
  f171 := Tryd.func131.trans (congrArg some (by kernel_rfl))
  f174 := Tryd.func55.trans (congrArg some (by kernel_rfl))
  f205 := Tryd.func130.trans (congrArg some (by kernel_rfl))
  f243 := Tryd.func143.trans (congrArg some (by kernel_rfl))
  f245 := Tryd.func90.trans (congrArg some (by kernel_rfl))
  f246 := Tryd.func87.trans (congrArg some (by kernel_rfl))
  f247 := Tryd.func89.trans (congrArg some (by kernel_rfl))
  f279 := Tryd.func109.trans (congrArg some (by kernel_rfl))
  f280 := Tryd.func110.trans (congrArg some (by kernel_rfl))
  f281 := Tryd.func111.trans (congrArg some (by kernel_rfl))
  f282 := Tryd.func112.trans (congrArg some (by kernel_rfl))
  f283 := Tryd.func104.trans (congrArg some (by kernel_rfl))
  f284 := Tryd.func105.trans (congrArg some (by kernel_rfl))
  f285 := Tryd.func106.trans (congrArg some (by kernel_rfl))
  f286 := Tryd.func107.trans (congrArg some (by kernel_rfl))
  f287 := Tryd.func108.trans (congrArg some (by kernel_rfl))
  f316 := Tryd.func129.trans (congrArg some (by kernel_rfl))
  f317 := Tryd.func122.trans (congrArg some (by kernel_rfl))
  f318 := Tryd.func124.trans (congrArg some (by kernel_rfl))
  f319 := Tryd.func125.trans (congrArg some (by kernel_rfl))
  f320 := Tryd.func126.trans (congrArg some (by kernel_rfl))
  f321 := Tryd.func127.trans (congrArg some (by kernel_rfl))
  f322 := Tryd.func128.trans (congrArg some (by kernel_rfl))
  f337 := Tryd.func141.trans (congrArg some (by kernel_rfl))
  f338 := Tryd.func142.trans (congrArg some (by kernel_rfl))
  t0 := Tryd.underlying0
  a0 := Tryd.isAgg0
  z0 := Tryd.sizeOf0
  v0 := Tryd.zeroValue0
  t2 := Tryd.underlying2
  a2 := Tryd.isAgg2
  z2 := Tryd.sizeOf2
  v2 := Tryd.zeroValue2
  t3 := Tryd.underlying3
  a3 := Tryd.isAgg3
  z3 := Tryd.sizeOf3
  v3 := Tryd.zeroValue3
  t4 := Tryd.underlying4
  a4 := Tryd.isAgg4
  z4 := Tryd.sizeOf4
  v4 := Tryd.zeroValue4
  t5 := Tryd.underlying5
  a5 := Tryd.isAgg5
  z5 := Tryd.sizeOf5
  v5 := Tryd.zeroValue5
  t9 := Tryd.underlying9
  a9 := Tryd.isAgg9
  z9 := Tryd.sizeOf9
  v9 := Tryd.zeroValue9
  t20 := Tryd.underlying20
  a20 := Tryd.isAgg20
  z20 := Tryd.sizeOf20
  v20 := Tryd.zeroValue20
  t21 := Tryd.underlying21
  a21 := Tryd.isAgg21
  z21 := Tryd.sizeOf21
  v21 := Tryd.zeroValue21
  t37 := Tryd.underlying101
  a37 := Tryd.isAgg101
  z37 := Tryd.sizeOf101
  v37 := Tryd.zeroValue101
  t46 := Tryd.underlying128
  a46 := Tryd.isAgg128
  z46 := Tryd.sizeOf128
  v46 := Tryd.zeroValue128
  t51 := Tryd.underlying140
  a51 := Tryd.isAgg140
  z51 := Tryd.sizeOf140
  v51 := Tryd.zeroValue140
  t53 := Tryd.underlying120
  a53 := Tryd.isAgg120
  z53 := Tryd.sizeOf120
  v53 := Tryd.zeroValue120
  t75 := Tryd.underlying71
  a75 := Tryd.isAgg71
  z75 := Tryd.sizeOf71
  v75 := Tryd.zeroValue71
  t85 := Tryd.underlying72
  a85 := Tryd.isAgg72
  z85 := Tryd.sizeOf72
  v85 := Tryd.zeroValue72
  t127 := Tryd.underlying134
  a127 := Tryd.isAgg134
  z127 := Tryd.sizeOf134
  v127 := Tryd.zeroValue134
  t143 := Tryd.underlying157
  a143 := Tryd.isAgg157
  z143 := Tryd.sizeOf157
  v143 := Tryd.zeroValue157
  t145 := Tryd.underlying159
  a145 := Tryd.isAgg159
  z145 := Tryd.sizeOf159
  v145 := Tryd.zeroValue159
  t167 := Tryd.underlying125
  a167 := Tryd.isAgg125
  z167 := Tryd.sizeOf125
  v167 := Tryd.zeroValue125
  t168 := Tryd.underlying129
  a168 := Tryd.isAgg129
  z168 := Tryd.sizeOf129
  v168 := Tryd.zeroValue129
  t171 := Tryd.underlying119
  a171 := Tryd.isAgg119
  z171 := Tryd.sizeOf119
  v171 := Tryd.zeroValue119
  t173 := Tryd.underlying123
  a173 := Tryd.isAgg123
  z173 := Tryd.sizeOf123
  v173 := Tryd.zeroValue123
  t175 := Tryd.underlying126
  a175 := Tryd.isAgg126
  z175 := Tryd.sizeOf126
  v175 := Tryd.zeroValue126
  t210 := Tryd.underlying147
  a210 := Tryd.isAgg147
  z210 := Tryd.sizeOf147
  v210 := Tryd.zeroValue147
  t212 := Tryd.underlying139
  a212 := Tryd.isAgg139
  z212 := Tryd.sizeOf139
  v212 := Tryd.zeroValue139
  t213 := Tryd.underlying141
  a213 := Tryd.isAgg141
  z213 := Tryd.sizeOf141
  t232 := Tryd.underlying162
  a232 := Tryd.isAgg162
  z232 := Tryd.sizeOf162
  v232 := Tryd.zeroValue162
  t233 := Tryd.underlying163
  a233 := Tryd.isAgg163
  z233 := Tryd.sizeOf163
  v233 := Tryd.zeroValue163
  g15 := by kernel_rfl
  g16 := by kernel_rfl
  g17 := by kernel_rfl
  g18 := by kernel_rfl
  g19 := by kernel_rfl
  t80 := Tryd.underlying114
  a80 := Tryd.isAgg114
  z80 := Tryd.sizeOf114
  v80 := Tryd.zeroValue114
  i0 := by kernel_rfl
  i2 := by kernel_rfl
  i3 := by kernel_rfl
  i4 := by kernel_rfl
  i5 := by kernel_rfl
  i9 := by kernel_rfl
  i20 := by kernel_rfl
  i21 := by kernel_rfl
  i37 := by kernel_rfl
  i46 := by kernel_rfl
  i51 := by kernel_rfl
  i53 := by kernel_rfl
  i75 := by kernel_rfl
  i80 := by kernel_rfl
  i85 := by kernel_rfl
  i127 := by kernel_rfl
  i143 := by kernel_rfl
  i145 := by kernel_rfl
  i167 := by kernel_rfl
  i168 := by kernel_rfl
  i171 := by kernel_rfl
  i173 := by kernel_rfl
  i175 := by kernel_rfl
  i210 := by kernel_rfl
  i212 := by kernel_rfl
  i232 := by kernel_rfl
  i233 := by kernel_rfl
  m15 := by kernel_rfl
  m16 := by kernel_rfl
  m17 := by kernel_rfl
  m18 := by kernel_rfl
  m19 := by kernel_rfl
  c0 := by kernel_rfl
  c2 := by kernel_rfl
  c3 := by kernel_rfl
  c4 := by kernel_rfl
  c5 := by kernel_rfl
  c9 := by kernel_rfl
  c20 := by kernel_rfl
  c21 := by kernel_rfl
  c37 := by kernel_rfl
  c46 := by kernel_rfl
  c51 := by kernel_rfl
  c53 := by kernel_rfl
  c75 := by kernel_rfl
  c80 := by kernel_rfl
  c85 := by kernel_rfl
  c127 := by kernel_rfl
  c143 := by kernel_rfl
  c145 := by kernel_rfl
  c167 := by kernel_rfl
  c168 := by kernel_rfl
  c171 := by kernel_rfl
  c173 := by kernel_rfl
  c175 := by kernel_rfl
  c210 := by kernel_rfl
  c212 := by kernel_rfl
  c213 := by kernel_rfl
  c232 := by kernel_rfl
  c233 := by kernel_rfl }
end Go.Proofs.YtlgagjboijkpgaaDoor
/- Walks: a decimal read. -/
namespace Go.Proofs.YtlgagjboijkpgaaDoor
open Go.Lib Go.Eng
theorem byte_rng (s : ByteArray) (i : Nat) : 0 ≤ byteAt s i ∧ byteAt s i ≤ 255 := by
  unfold byteAt
  have := (s.data.getD i 0).toNat_lt
  omega
theorem data_len (s : ByteArray) : s.data.toList.length = s.size := Array.length_toList
theorem byte_list {s : ByteArray} {i : Nat} (h : i < s.size) : ∃ c : UInt8, byteAt s i = (c.toNat : Int) ∧ s.data.toList.take (i + 1) = s.data.toList.take i ++ [c] := by
  have hl := data_len s
  refine ⟨s.data.toList[i], ?_, ?_⟩
  · unfold byteAt
    have h2 : i < s.data.size := h
    rw [Array.getD_eq_getD_getElem?, Array.getElem?_eq_getElem h2]; rfl
  · rw [List.take_add_one, List.getElem?_eq_getElem (by omega)]; rfl
end Go.Proofs.YtlgagjboijkpgaaDoor
/- Walks: a decimal read by the library; the law. -/
namespace Go.Proofs.YtlgagjboijkpgaaDoor
open Go.Lib Go.Eng
/-- The package variables that reading a decimal looks at. -/
def HasVars (H : List ABox) : Prop := (∃ (k : Nat) (T : TypeId) (fr : Nat × Nat), H[k]? = some (ABox.tab 0 (.cells powCells T fr))) ∧ (∃ (k : Nat) (t : TypeId) (p : Value) (T : TypeId) (fr : Nat × Nat), H[k]? = some (ABox.tab 1 (.cells #[.iface t p] T fr))) ∧ (∃ (k : Nat) (t : TypeId) (p : Value) (T : TypeId) (fr : Nat × Nat), H[k]? = some (ABox.tab 2 (.cells #[.iface t p] T fr)))
theorem HasVars.app {H : List ABox} (h : HasVars H) (l : List ABox) : HasVars (H ++ l) := by
  obtain ⟨⟨k, T, fr, h1⟩, ⟨k2, t2, p2, T2, fr2, h2⟩, ⟨k3, t3, p3, T3, fr3, h3⟩⟩ := h
  exact ⟨⟨k, T, fr, getT h1⟩, ⟨k2, t2, p2, T2, fr2, getT h2⟩, ⟨k3, t3, p3, T3, fr3, getT h3⟩⟩
end Go.Proofs.YtlgagjboijkpgaaDoor
/- The plain law of texts cut at a mark; lists read; no program in sight. -/
namespace Go.Proofs.YtlgagjboijkpgaaDoor
open Go.Lib Go.Eng
/-- Bytes set before the first part. -/
def glue (p : List UInt8) : List (List UInt8) → List (List UInt8)
  | [] => [p]
  | q :: qs => (p ++ q) :: qs
/-- The parts of a text between marks. -/
def pts (m : UInt8) : List UInt8 → List (List UInt8)
  | [] => [[]]
  | c :: l => if c = m then [] :: pts m l else glue [c] (pts m l)
def Free (m : UInt8) (p : List UInt8) : Prop := ∀ c ∈ p, c ≠ m
theorem pts_ne (m : UInt8) (l : List UInt8) : pts m l ≠ [] := by
  cases l with
  | nil => simp [pts]
  | cons c l =>
    unfold pts
    split
    · simp
    · cases pts m l <;> simp [glue]
theorem glue_glue (p q : List UInt8) {x : List (List UInt8)} (h : x ≠ []) : glue p (glue q x) = glue (p ++ q) x := by
  cases x with
  | nil => exact absurd rfl h
  | cons a r => simp [glue]
theorem glue_nil {x : List (List UInt8)} (h : x ≠ []) : glue [] x = x := by
  cases x with
  | nil => exact absurd rfl h
  | cons a r => simp [glue]
theorem pts_skip (m : UInt8) : ∀ (p l : List UInt8), Free m p → pts m (p ++ l) = glue p (pts m l)
  | [], l, _ => (glue_nil (pts_ne m l)).symm
  | c :: p, l, h => by
    have hc : c ≠ m := h c (List.mem_cons_self ..)
    have ih := pts_skip m p l (fun x hx => h x (List.mem_cons_of_mem _ hx))
    rw [List.cons_append]
    conv => lhs; unfold pts
    rw [if_neg hc, ih, glue_glue _ _ (pts_ne m l)]; rfl
theorem pts_free {m : UInt8} {p : List UInt8} (h : Free m p) : pts m p = [p] := by
  have := pts_skip m p [] h
  rw [List.append_nil] at this
  rw [this]; simp [pts, glue]
theorem pts_at {m : UInt8} {p l : List UInt8} (h : Free m p) : pts m (p ++ m :: l) = p :: pts m l := by
  rw [pts_skip m p _ h]
  simp [pts, glue]
theorem pts_len (m : UInt8) : ∀ (l : List UInt8), (pts m l).length ≤ l.length + 1
  | [] => by simp [pts]
  | c :: l => by
    have ih := pts_len m l
    unfold pts
    split
    · simp only [List.length_cons]; omega
    · cases e : pts m l with
      | nil => simp [glue]
      | cons a r => rw [e] at ih; simp only [glue, List.length_cons] at ih ⊢; omega
theorem pts_each (m : UInt8) : ∀ (l q : List UInt8), q ∈ pts m l → q.length ≤ l.length
  | [], q, h => by simp [pts] at h; subst h; simp
  | c :: l, q, h => by
    have ih := pts_each m l
    unfold pts at h
    split at h
    · rcases List.mem_cons.1 h with rfl | h
      · simp
      · have := ih q h; simp only [List.length_cons]; omega
    · cases e : pts m l with
      | nil => exact absurd e (pts_ne m l)
      | cons a r =>
        rw [e] at h ih
        simp only [glue] at h
        rcases List.mem_cons.1 h with rfl | h
        · have := ih a (List.mem_cons_self ..)
          simp; omega
        · have := ih q (List.mem_cons_of_mem _ h); simp only [List.length_cons]; omega
/-- Where a mark is first. -/
theorem idx1 (m : UInt8) : ∀ (l : List UInt8), (index l [m] = -1 ∧ Free m l) ∨ ∃ p r, l = p ++ m :: r ∧ Free m p ∧ index l [m] = (p.length : Int)
  | [] => .inl ⟨by simp [index], fun c h => by cases h⟩
  | b :: l => by
    by_cases hb : b = m
    · subst hb
      exact .inr ⟨[], l, rfl, (fun c h => by cases h), by rw [index]; simp [List.isPrefixOf]⟩
    · have hp : ([m] : List UInt8).isPrefixOf (b :: l) = false := by simp [List.isPrefixOf, Ne.symm hb]
      have hix : index (b :: l) [m] = if index l [m] == -1 then -1 else index l [m] + 1 := by rw [index, hp]; simp
      rcases idx1 m l with ⟨h1, h2⟩ | ⟨p, r, h1, h2, h3⟩
      · refine .inl ⟨by rw [hix, if_pos (by simp [h1])], fun c hc => ?_⟩
        rcases List.mem_cons.1 hc with rfl | hc
        · exact hb
        · exact h2 c hc
      · refine .inr ⟨b :: p, r, by rw [h1]; rfl, fun c hc => ?_, ?_⟩
        · rcases List.mem_cons.1 hc with rfl | hc
          · exact hb
          · exact h2 c hc
        · rw [hix, if_neg (by rw [h3, beq_iff_eq]; omega), h3]; simp
theorem splitK_pts (m : UInt8) : ∀ (k : Nat) (l : List UInt8), count l [m] = k → splitK [m] 0 k l = pts m l
  | 0, l, h => by
    rcases idx1 m l with ⟨h1, h2⟩ | ⟨p, r, h1, h2, h3⟩
    · rw [pts_free h2]; rfl
    · rw [count_hit (by simp) h3] at h; omega
  | k + 1, l, h => by
    rcases idx1 m l with ⟨h1, h2⟩ | ⟨p, r, h1, h2, h3⟩
    · rw [count_miss h1] at h; omega
    · have e : l.drop (p.length + ([m] : List UInt8).length) = r := by rw [h1]; simp
      have e2 : l.take (p.length + 0) = p := by rw [h1]; simp
      have hc := count_hit (s := l) (sub := [m]) (by simp) h3
      rw [e] at hc
      have ih := splitK_pts m k r (by omega)
      have ei : (index l [m]).toNat = p.length := by omega
      unfold splitK
      rw [if_neg (by rw [h3, beq_iff_eq]; omega), ei, e, e2, ih, h1, pts_at h2]
/-- The parts as texts. -/
def ptsS (m : UInt8) (s : ByteArray) : List ByteArray := (pts m s.data.toList).map fun l => ⟨l.toArray⟩
theorem ba_eta (s : ByteArray) : (⟨s.data.toList.toArray⟩ : ByteArray) = s := by
  apply ByteArray.ext; simp
theorem split_pts (m : UInt8) (s : ByteArray) : splitB ⟨#[m]⟩ 0 (countB s ⟨#[m]⟩) s = ptsS m s := by
  have h := splitB_data ⟨#[m]⟩ 0 (countB s ⟨#[m]⟩) s
  have hc : countB s ⟨#[m]⟩ = count s.data.toList [m] := rfl
  rw [show (⟨#[m]⟩ : ByteArray).data.toList = [m] from rfl, hc, splitK_pts m _ _ rfl] at h
  unfold ptsS
  rw [← h, List.map_map, hc]
  conv => lhs; rw [← List.map_id (splitB _ _ _ _)]
  refine List.map_congr_left fun b _ => ?_
  exact (ba_eta b).symm
/-! ### The reference's loop -/
/-- What the loop knows at i: the parts laid, and where the next one begins. -/
def CutAt (m : UInt8) (l : List UInt8) (i : Nat) (out : List (List UInt8)) (fr : Nat) : Prop := fr ≤ i ∧ i ≤ l.length ∧ Free m ((l.drop fr).take (i - fr)) ∧ pts m l = out ++ pts m (l.drop fr)
theorem CutAt.skip {m : UInt8} {l : List UInt8} {i fr : Nat} {out : List (List UInt8)} (h : CutAt m l i out fr) (hi : i < l.length) (hc : l[i] ≠ m) : CutAt m l (i + 1) out fr := by
  obtain ⟨h1, h2, h3, h4⟩ := h
  refine ⟨by omega, by omega, fun c hcm => ?_, h4⟩
  rw [show i + 1 - fr = (i - fr) + 1 by omega, List.take_add_one, List.getElem?_drop, show fr + (i - fr) = i by omega, List.getElem?_eq_getElem hi] at hcm
  rcases List.mem_append.1 hcm with hcm | hcm
  · exact h3 c hcm
  · simp at hcm; subst hcm; exact hc
theorem CutAt.at {m : UInt8} {l : List UInt8} {i fr : Nat} {out : List (List UInt8)} (h : CutAt m l i out fr) (hi : i < l.length) (hc : l[i] = m) : CutAt m l (i + 1) (out ++ [(l.drop fr).take (i - fr)]) (i + 1) := by
  obtain ⟨h1, h2, h3, h4⟩ := h
  refine ⟨Nat.le_refl _, by omega, fun c hcm => by simp at hcm, ?_⟩
  have e : l.drop fr = (l.drop fr).take (i - fr) ++ m :: l.drop (i + 1) := by
    conv => lhs; rw [← List.take_append_drop (i - fr) (l.drop fr)]
    rw [List.drop_drop, show fr + (i - fr) = i by omega, List.drop_eq_getElem_cons hi, hc]
  rw [h4, List.append_assoc]
  congr 1
  conv => lhs; rw [e]
  rw [pts_at h3]; rfl
theorem CutAt.done {m : UInt8} {l : List UInt8} {fr : Nat} {out : List (List UInt8)} (h : CutAt m l l.length out fr) : out ++ [(l.drop fr).take (l.length - fr)] = pts m l := by
  obtain ⟨h1, h2, h3, h4⟩ := h
  have e : (l.drop fr).take (l.length - fr) = l.drop fr := List.take_of_length_le (by simp)
  rw [e] at h3 ⊢
  rw [h4, pts_free h3]
theorem CutAt.len {m : UInt8} {l : List UInt8} {i fr : Nat} {out : List (List UInt8)} (h : CutAt m l i out fr) : out.length ≤ l.length + 1 := by
  have h1 := pts_len m l
  rw [h.2.2.2, List.length_append] at h1
  omega
end Go.Proofs.YtlgagjboijkpgaaDoor
/- strings.Cut and strings.Split at a mark of one byte: the library's contracts, laid at this program; as contracts here. -/
namespace Go.Proofs.YtlgagjboijkpgaaDoor
open Go.Shelf Go.RowKit Go.Lib Go.Sort Go.Proofs Go.Eng
def lays145_ren : Go.Shelf.Ren := ⟨fun | 145 => 71 | 220 => 97 | 219 => 115 | 217 => 132 | 225 => 133 | 224 => 134 | 267 => 135 | 266 => 144 | 314 => 145 | n => n, fun | 9 => 9 | 4 => 4 | 59 => 86 | 3 => 3 | 5 => 5 | 46 => 128 | 146 => 160 | 51 => 140 | n => n, fun | 1 => 3 | n => n⟩
theorem lays145 : Go.Proofs.Lays.n145 Tryd.prog lays145_ren := {
  mixed := by kernel_rfl
  f145 := Tryd.func71.trans (congrArg some (by kernel_rfl))
  f217 := Tryd.func132.trans (congrArg some (by kernel_rfl))
  f219 := Tryd.func115.trans (congrArg some (by kernel_rfl))
  f220 := Tryd.func97.trans (congrArg some (by kernel_rfl))
  f224 := Tryd.func134.trans (congrArg some (by kernel_rfl))
  f225 := Tryd.func133.trans (congrArg some (by kernel_rfl))
  f266 := Tryd.func144.trans (congrArg some (by kernel_rfl))
  f267 := Tryd.func135.trans (congrArg some (by kernel_rfl))
  f314 := Tryd.func145.trans (congrArg some (by kernel_rfl))
  t3 := Tryd.underlying3
  a3 := Tryd.isAgg3
  z3 := Tryd.sizeOf3
  v3 := Tryd.zeroValue3
  t4 := Tryd.underlying4
  a4 := Tryd.isAgg4
  z4 := Tryd.sizeOf4
  v4 := Tryd.zeroValue4
  t5 := Tryd.underlying5
  a5 := Tryd.isAgg5
  z5 := Tryd.sizeOf5
  v5 := Tryd.zeroValue5
  t9 := Tryd.underlying9
  a9 := Tryd.isAgg9
  z9 := Tryd.sizeOf9
  v9 := Tryd.zeroValue9
  t46 := Tryd.underlying128
  a46 := Tryd.isAgg128
  z46 := Tryd.sizeOf128
  v46 := Tryd.zeroValue128
  t51 := Tryd.underlying140
  a51 := Tryd.isAgg140
  z51 := Tryd.sizeOf140
  v51 := Tryd.zeroValue140
  t59 := Tryd.underlying86
  a59 := Tryd.isAgg86
  z59 := Tryd.sizeOf86
  v59 := Tryd.zeroValue86
  t146 := Tryd.underlying160
  a146 := Tryd.isAgg160
  z146 := Tryd.sizeOf160
  v146 := Tryd.zeroValue160
  g1 := by kernel_rfl }
def lays146_ren : Go.Shelf.Ren := ⟨fun | 146 => 79 | 221 => 102 | 268 => 118 | 138 => 119 | 143 => 120 | 195 => 138 | 197 => 139 | 218 => 140 | 219 => 115 | 260 => 146 | 217 => 132 | 225 => 133 | 224 => 134 | 267 => 135 | 266 => 144 | 314 => 145 | n => n, fun | 9 => 9 | 31 => 84 | 3 => 3 | 4 => 4 | 0 => 0 | 105 => 154 | 21 => 21 | 5 => 5 | 46 => 128 | 119 => 164 | 139 => 167 | 138 => 166 | 146 => 160 | 51 => 140 | n => n, fun | 1 => 3 | 3 => 6 | 4 => 7 | n => n⟩
theorem lays146 : Go.Proofs.Lays.n146 Tryd.prog lays146_ren := {
  mixed := by kernel_rfl
  f138 := Tryd.func119.trans (congrArg some (by kernel_rfl))
  f143 := Tryd.func120.trans (congrArg some (by kernel_rfl))
  f146 := Tryd.func79.trans (congrArg some (by kernel_rfl))
  f195 := Tryd.func138.trans (congrArg some (by kernel_rfl))
  f197 := Tryd.func139.trans (congrArg some (by kernel_rfl))
  f217 := Tryd.func132.trans (congrArg some (by kernel_rfl))
  f218 := Tryd.func140.trans (congrArg some (by kernel_rfl))
  f219 := Tryd.func115.trans (congrArg some (by kernel_rfl))
  f221 := Tryd.func102.trans (congrArg some (by kernel_rfl))
  f224 := Tryd.func134.trans (congrArg some (by kernel_rfl))
  f225 := Tryd.func133.trans (congrArg some (by kernel_rfl))
  f260 := Tryd.func146.trans (congrArg some (by kernel_rfl))
  f266 := Tryd.func144.trans (congrArg some (by kernel_rfl))
  f267 := Tryd.func135.trans (congrArg some (by kernel_rfl))
  f268 := Tryd.func118.trans (congrArg some (by kernel_rfl))
  f314 := Tryd.func145.trans (congrArg some (by kernel_rfl))
  t0 := Tryd.underlying0
  a0 := Tryd.isAgg0
  z0 := Tryd.sizeOf0
  v0 := Tryd.zeroValue0
  t3 := Tryd.underlying3
  a3 := Tryd.isAgg3
  z3 := Tryd.sizeOf3
  v3 := Tryd.zeroValue3
  t4 := Tryd.underlying4
  a4 := Tryd.isAgg4
  z4 := Tryd.sizeOf4
  v4 := Tryd.zeroValue4
  t5 := Tryd.underlying5
  a5 := Tryd.isAgg5
  z5 := Tryd.sizeOf5
  v5 := Tryd.zeroValue5
  t9 := Tryd.underlying9
  a9 := Tryd.isAgg9
  z9 := Tryd.sizeOf9
  v9 := Tryd.zeroValue9
  t21 := Tryd.underlying21
  a21 := Tryd.isAgg21
  z21 := Tryd.sizeOf21
  v21 := Tryd.zeroValue21
  t31 := Tryd.underlying84
  a31 := Tryd.isAgg84
  z31 := Tryd.sizeOf84
  v31 := Tryd.zeroValue84
  t46 := Tryd.underlying128
  a46 := Tryd.isAgg128
  z46 := Tryd.sizeOf128
  v46 := Tryd.zeroValue128
  t51 := Tryd.underlying140
  a51 := Tryd.isAgg140
  z51 := Tryd.sizeOf140
  v51 := Tryd.zeroValue140
  t105 := Tryd.underlying154
  a105 := Tryd.isAgg154
  z105 := Tryd.sizeOf154
  v105 := Tryd.zeroValue154
  t119 := Tryd.underlying164
  a119 := Tryd.isAgg164
  z119 := Tryd.sizeOf164
  t138 := Tryd.underlying166
  a138 := Tryd.isAgg166
  z138 := Tryd.sizeOf166
  v138 := Tryd.zeroValue166
  t139 := Tryd.underlying167
  a139 := Tryd.isAgg167
  z139 := Tryd.sizeOf167
  v139 := Tryd.zeroValue167
  t146 := Tryd.underlying160
  a146 := Tryd.isAgg160
  z146 := Tryd.sizeOf160
  v146 := Tryd.zeroValue160
  g1 := by kernel_rfl
  g3 := by kernel_rfl
  g4 := by kernel_rfl }
theorem gMax146 : lays146_ren.g 1 = 3 := by kernel_rfl
theorem hi146 : (Tryd.prog.info? (lays146_ren.t 9)).map (fun i => (i.zero, i.size, i.bytes)) = some (some (.string ByteArray.empty), 1, 16) := by kernel_rfl
theorem cell_at0 {w : World} {g : Nat} {cs : Array Value} {ev : Value} {T : TypeId} {fr : Nat × Nat} (h : w.heap[g]? = some (.cells cs T fr)) (h0 : cs[0]? = some ev) : w.cell? ⟨g, 0, none⟩ = some ev := by
  simp only [World.cell?, h]
  simpa using h0
theorem split79_ac (s : ByteArray) (hs : s.size ≤ 1048576) (m : UInt8) {H : List ABox} {k : Nat} {M : Int} {cs : Array Value} {T : TypeId} {fr : Nat × Nat} (hc0 : cs[0]? = some (.int .i64 M)) (hk : H[k]? = some (.tab 3 (.cells cs T fr))) :
    AC Tryd.prog 79 [.v (.string (s)), .v (.string (⟨#[m]⟩))] H (fun r H' => r = .sl 1 H.length 0 (ptsS m s).length ∧ H' = H ++ [.row false .str (ptsS m s)]) := by
  refine ⟨⟨_, Tryd.func79, by decide, by decide⟩, fun c vs w hv hh => ?_⟩
  obtain ⟨x, y, rfl, hx, hy⟩ := hv.args2
  have ex := hx.v_inv; have ey := hy.v_inv; subst ex; subst ey
  refine (Any.strings_Split lays146 hi146 s ⟨#[m]⟩ M w (by omega) (by rw [gMax146]; exact cell_at0 (hh.tab hk) hc0) (Nat.le_refl 1)).mono ?_
  rintro e w' ⟨rfl, rfl⟩
  have hl := splitB_all ⟨#[m]⟩ (Nat.le_refl 1) 0 (countB s ⟨#[m]⟩) s rfl
  rw [split_pts] at hl ⊢
  obtain ⟨c', he, hloc, hH⟩ := hh.newRow ((ptsS m s).map Value.string).toArray (lays146_ren.t 9) .str (ptsS m s) (ptsS m s).length (by simp [ETy.sz]) (Nat.le_refl _) (fun i j hi hj => by
    have hi' : i < (ptsS m s).length := hi
    obtain rfl : j = 0 := by simp only [ETy.sz] at hj; omega
    have e1 : (((ptsS m s).map Value.string).toArray.toList.getD (i * 1 + 0) undef) = Value.string ((ptsS m s).getD i ByteArray.empty) := by
      simp [List.getD, hi']
    show RelV c (.v (.string ((ptsS m s).getD i ByteArray.empty))) _
    simp only [ETy.sz]
    rw [e1]; exact .v _)
  refine ⟨c', _, _, _, he, rfl, ?_, hH, rfl, rfl⟩
  rw [← hl]
  exact RelV.sl (l := ⟨w.heap.size, 0, (ptsS m s).length⟩) hloc (by simp) (fun _ => ⟨rfl, by simp⟩)
end Go.Proofs.YtlgagjboijkpgaaDoor
/- Walks: lists that are marked. -/
namespace Go.Proofs.YtlgagjboijkpgaaDoor
open Go.Eng
theorem vCall_toB {f : FuncId} {args : List AVal} {N : Nat} {s : List (Nat × AVal)} {b b' l l' : List ABox} {x : AVal} {k : AVal → List ABox → List ABox → Prop}
    (h : AC Tryd.prog f args (b ++ l) (fun r H' => r = x ∧ H' = b' ++ l')) (hb : b'.length = b.length) (hk : k x b' l') : vCall Tryd.prog (.fn f []) args ⟨N, s, b, l⟩ k := by
  show AC Tryd.prog f (args ++ []) (b ++ l) _
  rw [List.append_nil]
  exact h.mono fun r H' ⟨e1, e2⟩ => ⟨b', l', e2, hb, e1 ▸ hk⟩
/-- A list of numbers, the first i of which are marked from k on. -/
def markTo (xs : List Int) (k : Int) (i : Nat) : List Int := (List.range i).map (fun j : Nat => k + (j : Int)) ++ xs.drop i
theorem markTo_len {xs : List Int} {k : Int} {i : Nat} (h : i ≤ xs.length) : (markTo xs k i).length = xs.length := by simp [markTo]; omega
theorem markTo_set {xs : List Int} {k : Int} {i : Nat} (h : i < xs.length) : (markTo xs k i).set i (k + i) = markTo xs k (i + 1) := by
  unfold markTo
  rw [List.set_append, if_neg (by simp), List.length_map, List.length_range, Nat.sub_self, List.range_succ, List.map_append, List.append_assoc]
  congr 1
  rw [List.drop_eq_getElem_cons h]
  rfl
/-- The numbers from k on. -/
def marks (k : Int) (n : Nat) : List Int := (List.range n).map (fun j : Nat => k + (j : Int))
theorem marks_len (k : Int) (n : Nat) : (marks k n).length = n := by simp [marks]
theorem marks_getD (k : Int) {n i : Nat} (h : i < n) : (marks k n).getD i 0 = k + (i : Int) := by simp [marks, List.getD, h]
theorem markTo_all (xs : List Int) (k : Int) : markTo xs k xs.length = marks k xs.length := by simp [markTo, marks]
theorem mark28_ac (xs : List Int) (k : Int) (hx : xs.length ≤ 1000000000) (hk : 0 ≤ k ∧ k ≤ 1000000000) (l : List ABox) (j : Nat) (hj : l[j]? = some (.row false (.int .i64) xs)) (H : List ABox) :
    AC Tryd.prog 28 [.sl 1 (H.length + j) 0 (xs.length), .v (.int .i64 (k))] (H ++ l) (fun r H' => r = .v (.int .i64 (k + xs.length)) ∧ H' = H ++ l.set j (.row false (.int .i64) (marks k xs.length))) := by
  have hjl : j < l.length := (List.getElem?_eq_some_iff.1 hj).1
  have hl : l.set j (.row false (.int .i64) xs) = l := set_same hj
  refine AC.enter envOk Tryd.func28 rfl (by decide) Tryd.ntmps28 Tryd.results28 (by simp) fun hB => ?_
  repeat' (first | (with_reducible first | refine AW.sreg envOk fun K hK => ?_ | refine AW.region envOk fun K hK => ?_ | refine vcL_nil ?_) | (with_reducible (first | refine vcL_cons fun K' hK' => ?_); simp only [isC, Bool.false_or, Bool.or_true, ↓reduceDIte, List.take_length, Nat.le_refl, List.drop_zero, vGuard, undef, Bool.not_eq_eq_eq_not, dstOk, vcOp, vcF, isPure, putS, vcCall, St.ev, St.put, lk, AVal.ofVal, initS, Nat.reduceLT, true_and, and_true, vBin, vPart, vLoad, vStore, vIdxA, vLen, AVal.flat, AVal.cell, cellsOk, setRange, ETy.enc, ETy.dec, ETy.sz, ETy.d, cond, Nat.reduceBEq, Nat.reduceAdd, Int.toNat_natCast, List.length_set, List.length_append, List.length_replicate, List.length_take, Nat.reduceSub, Nat.reduceEqDiff, get_loc, setBox_loc, next_eq, List.length_cons, List.length_nil, List.map_cons, List.map_nil, List.append_nil, List.nil_append, List.cons_append, List.set_cons_zero, List.set_cons_succ, getD_zero, getD_succ, List.getElem?_cons_succ, List.getElem?_cons_zero, List.take_succ_cons, List.take_zero, List.drop_succ_cons, List.all_cons, List.all_nil, Bool.and_true, Bool.true_and, Option.bind_some, Option.map_some, Option.map_none, decide_eq_true_eq, decide_eq_false_iff_not, ne_eq, Bool.not_eq_true, Bool.not_eq_false, Decidable.not_not, not_true_eq_false, not_false_eq_true, forall_const, false_implies, Bool.true_eq_false, Bool.false_eq_true, reduceCtorEq, decide_true, decide_false, Bool.not_true, Bool.not_false, if_true, if_false, Nat.zero_add, Nat.lt_irrefl, Value.oneCell', gt_iff_lt, Nat.reduceLeDiff, Nat.lt_add_one, vvar_2, vzero_2, vknd_2, vsn_2, vvar_3, vzero_3, vknd_3, vsn_3, vvar_4, vzero_4, vknd_4, vsn_4, vsl_27, vkn_27, vvar_27, vzero_27]; try simp (disch := omega) only [wrap64]) | (with_reducible refine hK' _ ?_; clear hK' K') | (with_reducible refine hK _ ?_; clear hK K) | (with_reducible first | refine And.intro (And.intro rfl rfl) ?_ | refine And.intro (by omega) ?_) | (with_reducible refine And.intro (fun hg => ?_) (fun hg => ?_) <;> first | simp only [eq_false hg, rsB] | simp only [eq_true hg, rsB] | simp only [hg, rsB]) | (with_reducible first | refine And.intro rfl (And.intro rfl rfl) | refine thenQ_n ?_ | refine thenQ_exit ?_ | refine thenQ_ret ?_ | refine midQ_ret ?_ | refine midQ_exit ?_ | refine blockQ_same ?_ | refine blockQ_ne (by decide) ?_ | refine blockQ_ret ?_ | refine blockQ_n ?_ | refine AW.exit ?_ | refine AW.block ?_ | refine AW.cond_t rfl ?_ | refine AW.cond_f rfl ?_ | refine AW.cond_dec rfl (fun hc => ?_) (fun hc => ?_)) | (with_reducible refine AW.cond rfl (fun hc => ?_) (fun hc => ?_) <;> try simp only [Bool.not_eq_eq_eq_not, Bool.not_true, Bool.not_false, decide_eq_true_eq, decide_eq_false_iff_not] at hc) | (with_reducible first | refine AW.seq ?_ | refine AW.skip ?_ | refine AW.ret ?_ | refine And.intro ?_ ?_) | (with_reducible intro hg; first | simp only [eq_false hg, rsB] | simp only [eq_true hg, rsB]) | (with_reducible refine retQ_drop ?_; simp only [vRes, packRes, vLoad, vPart, lk, cond, Nat.reduceBEq, get_loc, getD_zero, getD_succ, true_and, List.length_cons, List.length_nil, Nat.reduceAdd, Nat.reduceLT, Nat.reduceLeDiff, List.take_succ_cons, List.take_zero, List.drop_succ_cons, List.drop_zero, vvar_2, vzero_2, vknd_2, vsn_2, vvar_3, vzero_3, vknd_3, vsn_3, vvar_4, vzero_4, vknd_4, vsn_4, vsl_27, vkn_27, vvar_27, vzero_27]) )
  refine AW.loop (fun i : Nat => (⟨19, [(0, .sl 1 (H.length + j) 0 (xs.length)), (1, .v (.int .i64 (k + (i : Int)))), (5, .v (.int .i64 ((i : Int))))], H ++ l.set j (.row false (.int .i64) (markTo xs k i)), []⟩ : St)) (fun i => i ≤ xs.length) (fun i => xs.length - i) 0 (Nat.zero_le _) ?_ ?_
  · rw [show markTo xs k 0 = xs by simp [markTo], hl, Int.natCast_zero, Int.add_zero]
    exact (Weak.slots (by repeat' first | exact trivial | exact ⟨rfl, trivial⟩ | refine ⟨rfl, ?_⟩))
  · intro i hi
    have hml := markTo_len (xs := xs) (k := k) hi
    repeat' (first | (with_reducible first | refine AW.sreg envOk fun K hK => ?_ | refine AW.region envOk fun K hK => ?_ | refine vcL_nil ?_) | (with_reducible (first | refine vcL_cons fun K' hK' => ?_); simp only [isC, Bool.false_or, Bool.or_true, ↓reduceDIte, List.take_length, Nat.le_refl, List.drop_zero, vGuard, undef, Bool.not_eq_eq_eq_not, dstOk, vcOp, vcF, isPure, putS, vcCall, St.ev, St.put, lk, AVal.ofVal, initS, Nat.reduceLT, true_and, and_true, vBin, vPart, vLoad, vStore, vIdxA, vLen, AVal.flat, AVal.cell, cellsOk, setRange, ETy.enc, ETy.dec, ETy.sz, ETy.d, cond, Nat.reduceBEq, Nat.reduceAdd, Int.toNat_natCast, List.length_set, List.length_append, List.length_replicate, List.length_take, Nat.reduceSub, Nat.reduceEqDiff, get_bl, setBox_bl, next_bl, List.length_cons, List.length_nil, List.map_cons, List.map_nil, List.append_nil, List.nil_append, List.cons_append, List.set_cons_zero, List.set_cons_succ, getD_zero, getD_succ, List.getElem?_cons_succ, List.getElem?_cons_zero, List.take_succ_cons, List.take_zero, List.drop_succ_cons, List.all_cons, List.all_nil, Bool.and_true, Bool.true_and, Option.bind_some, Option.map_some, Option.map_none, decide_eq_true_eq, decide_eq_false_iff_not, ne_eq, Bool.not_eq_true, Bool.not_eq_false, Decidable.not_not, not_true_eq_false, not_false_eq_true, forall_const, false_implies, Bool.true_eq_false, Bool.false_eq_true, reduceCtorEq, decide_true, decide_false, Bool.not_true, Bool.not_false, if_true, if_false, Nat.zero_add, Nat.lt_irrefl, Value.oneCell', gt_iff_lt, Nat.reduceLeDiff, Nat.lt_add_one, vvar_2, vzero_2, vknd_2, vsn_2, vvar_3, vzero_3, vknd_3, vsn_3, vvar_4, vzero_4, vknd_4, vsn_4, vsl_27, vkn_27, vvar_27, vzero_27, get_set hjl, get_set0 hjl, set_again, hjl, hml, Nat.zero_add]; try simp (disch := omega) only [wrap64]) | (with_reducible refine hK' _ ?_; clear hK' K') | (with_reducible refine hK _ ?_; clear hK K) | (with_reducible first | refine And.intro (And.intro rfl rfl) ?_ | refine And.intro (by omega) ?_) | (with_reducible refine And.intro (fun hg => ?_) (fun hg => ?_) <;> first | simp only [eq_false hg, rsB] | simp only [eq_true hg, rsB] | simp only [hg, rsB]) | (with_reducible first | refine And.intro rfl (And.intro rfl rfl) | refine thenQ_n ?_ | refine thenQ_exit ?_ | refine thenQ_ret ?_ | refine midQ_ret ?_ | refine midQ_exit ?_ | refine blockQ_same ?_ | refine blockQ_ne (by decide) ?_ | refine blockQ_ret ?_ | refine blockQ_n ?_ | refine AW.exit ?_ | refine AW.block ?_ | refine AW.cond_t rfl ?_ | refine AW.cond_f rfl ?_ | refine AW.cond_dec rfl (fun hc => ?_) (fun hc => ?_)) | (with_reducible refine AW.cond rfl (fun hc => ?_) (fun hc => ?_) <;> try simp only [Bool.not_eq_eq_eq_not, Bool.not_true, Bool.not_false, decide_eq_true_eq, decide_eq_false_iff_not] at hc) | (with_reducible first | refine AW.seq ?_ | refine AW.skip ?_ | refine AW.ret ?_ | refine And.intro ?_ ?_) | (with_reducible intro hg; first | simp only [eq_false hg, rsB] | simp only [eq_true hg, rsB]) | (with_reducible refine retQ_drop ?_; simp only [vRes, packRes, vLoad, vPart, lk, cond, Nat.reduceBEq, get_bl, getD_zero, getD_succ, true_and, List.length_cons, List.length_nil, Nat.reduceAdd, Nat.reduceLT, Nat.reduceLeDiff, List.take_succ_cons, List.take_zero, List.drop_succ_cons, List.drop_zero, vvar_2, vzero_2, vknd_2, vsn_2, vvar_3, vzero_3, vknd_3, vsn_3, vvar_4, vzero_4, vknd_4, vsn_4, vsl_27, vkn_27, vvar_27, vzero_27]) )
    · refine ⟨i + 1, by omega, by omega, ?_⟩
      rw [markTo_set (by omega), show k + ((i + 1 : Nat) : Int) = k + (i : Int) + 1 by omega]
      exact (Weak.slots (by repeat' first | exact trivial | exact ⟨rfl, trivial⟩ | refine ⟨rfl, ?_⟩))
    · obtain rfl : i = xs.length := by omega
      rw [markTo_all]
      exact ⟨_, _, FinOk.base, rfl, rfl⟩
theorem mark28o_ac (xs : List Int) (k : Int) (hx : xs.length ≤ 1000000000) (hk : 0 ≤ k ∧ k ≤ 1000000000) (l : List ABox) (j : Nat) (hj : l[j]? = some (.row false (.int .i64) xs)) (H own : List ABox) :
    AC Tryd.prog 28 [.sl 1 (H.length + j) 0 (xs.length), .v (.int .i64 (k))] ((H ++ l) ++ own) (fun r H' => r = .v (.int .i64 (k + xs.length)) ∧ H' = (H ++ l.set j (.row false (.int .i64) (marks k xs.length))) ++ own) := by
  have hjl : j < l.length := (List.getElem?_eq_some_iff.1 hj).1
  have h := mark28_ac xs k hx hk (l ++ own) j (by rw [List.getElem?_append_left hjl]; exact hj) H
  rw [List.set_append, if_pos hjl] at h
  rw [List.append_assoc, List.append_assoc]
  exact h
theorem held29_ac (n : Nat) (k : Int) (hx : n ≤ 100000000) (hk : 0 ≤ k ∧ k ≤ 1000000000) (H : List ABox) : AC Tryd.prog 29 [.rd (.int .i64) (marks k n), .v (.int .i64 (k))] H (fun r H' => r = .v (.int .i64 (k + (n : Int))) ∧ H' = H) := by
  have hml := marks_len k n
  refine AC.enter envOk Tryd.func29 rfl (by decide) Tryd.ntmps29 Tryd.results29 (by simp) fun hB => ?_
  repeat' (first | (with_reducible first | refine AW.sreg envOk fun K hK => ?_ | refine AW.region envOk fun K hK => ?_ | refine vcL_nil ?_) | (with_reducible (first | refine vcL_cons fun K' hK' => ?_); simp only [isC, Bool.false_or, Bool.or_true, ↓reduceDIte, List.take_length, Nat.le_refl, List.drop_zero, vGuard, undef, Bool.not_eq_eq_eq_not, dstOk, vcOp, vcF, isPure, putS, vcCall, St.ev, St.put, lk, AVal.ofVal, initS, Nat.reduceLT, true_and, and_true, vBin, vPart, vLoad, vIdxA, vLen, AVal.flat, AVal.cell, cellsOk, setRange, ETy.enc, ETy.dec, ETy.sz, ETy.d, cond, Nat.reduceBEq, Nat.reduceAdd, Int.toNat_natCast, List.length_set, List.length_append, List.length_replicate, List.length_take, Nat.reduceSub, Nat.reduceEqDiff, get_loc, setBox_loc, next_eq, List.length_cons, List.length_nil, List.map_cons, List.map_nil, List.append_nil, List.nil_append, List.cons_append, List.set_cons_zero, List.set_cons_succ, getD_zero, getD_succ, List.getElem?_cons_succ, List.getElem?_cons_zero, List.take_succ_cons, List.take_zero, List.drop_succ_cons, List.all_cons, List.all_nil, Bool.and_true, Bool.true_and, Option.bind_some, Option.map_some, Option.map_none, decide_eq_true_eq, decide_eq_false_iff_not, ne_eq, Bool.not_eq_true, Bool.not_eq_false, Decidable.not_not, not_true_eq_false, not_false_eq_true, forall_const, false_implies, Bool.true_eq_false, Bool.false_eq_true, reduceCtorEq, decide_true, decide_false, Bool.not_true, Bool.not_false, if_true, if_false, Nat.zero_add, Nat.lt_irrefl, Value.oneCell', gt_iff_lt, Nat.reduceLeDiff, Nat.lt_add_one, vvar_2, vzero_2, vknd_2, vsn_2, vvar_3, vzero_3, vknd_3, vsn_3, vvar_4, vzero_4, vknd_4, vsn_4, vsl_27, vkn_27, vvar_27, vzero_27]; try simp (disch := omega) only [wrap64]) | (with_reducible refine hK' _ ?_; clear hK' K') | (with_reducible refine hK _ ?_; clear hK K) | (with_reducible first | refine And.intro (And.intro rfl rfl) ?_ | refine And.intro (by omega) ?_) | (with_reducible refine And.intro (fun hg => ?_) (fun hg => ?_) <;> first | simp only [eq_false hg, rsB] | simp only [eq_true hg, rsB] | simp only [hg, rsB]) | (with_reducible first | refine And.intro rfl (And.intro rfl rfl) | refine thenQ_n ?_ | refine thenQ_exit ?_ | refine thenQ_ret ?_ | refine midQ_ret ?_ | refine midQ_exit ?_ | refine blockQ_same ?_ | refine blockQ_ne (by decide) ?_ | refine blockQ_ret ?_ | refine blockQ_n ?_ | refine AW.exit ?_ | refine AW.block ?_ | refine AW.cond_t rfl ?_ | refine AW.cond_f rfl ?_ | refine AW.cond_dec rfl (fun hc => ?_) (fun hc => ?_)) | (with_reducible refine AW.cond rfl (fun hc => ?_) (fun hc => ?_) <;> try simp only [Bool.not_eq_eq_eq_not, Bool.not_true, Bool.not_false, decide_eq_true_eq, decide_eq_false_iff_not] at hc) | (with_reducible first | refine AW.seq ?_ | refine AW.skip ?_ | refine AW.ret ?_ | refine And.intro ?_ ?_) | (with_reducible intro hg; first | simp only [eq_false hg, rsB] | simp only [eq_true hg, rsB]) | (with_reducible refine retQ_drop ?_; simp only [vRes, packRes, vLoad, vPart, lk, cond, Nat.reduceBEq, get_loc, getD_zero, getD_succ, true_and, List.length_cons, List.length_nil, Nat.reduceAdd, Nat.reduceLT, Nat.reduceLeDiff, List.take_succ_cons, List.take_zero, List.drop_succ_cons, List.drop_zero, vvar_2, vzero_2, vknd_2, vsn_2, vvar_3, vzero_3, vknd_3, vsn_3, vvar_4, vzero_4, vknd_4, vsn_4, vsl_27, vkn_27, vvar_27, vzero_27]) )
  refine AW.loop (fun i : Nat => (⟨21, [(0, .rd (.int .i64) (marks k n)), (1, .v (.int .i64 (k + (i : Int)))), (5, .v (.int .i64 ((i : Int))))], H, []⟩ : St)) (fun i => i ≤ n) (fun i => n - i) 0 (Nat.zero_le _) ?_ ?_
  · rw [Int.natCast_zero, Int.add_zero]
    exact (Weak.slots (by repeat' first | exact trivial | exact ⟨rfl, trivial⟩ | refine ⟨rfl, ?_⟩))
  · intro i hi
    by_cases hin : i < n
    · have hg2 := marks_getD k hin
      repeat' (first | (with_reducible first | refine AW.sreg envOk fun K hK => ?_ | refine AW.region envOk fun K hK => ?_ | refine vcL_nil ?_) | (with_reducible (first | refine vcL_cons fun K' hK' => ?_); simp only [isC, Bool.false_or, Bool.or_true, ↓reduceDIte, List.take_length, Nat.le_refl, List.drop_zero, vGuard, undef, Bool.not_eq_eq_eq_not, dstOk, vcOp, vcF, isPure, putS, vcCall, St.ev, St.put, lk, AVal.ofVal, initS, Nat.reduceLT, true_and, and_true, vBin, vPart, vLoad, vIdxA, vLen, AVal.flat, AVal.cell, cellsOk, setRange, ETy.enc, ETy.dec, ETy.sz, ETy.d, cond, Nat.reduceBEq, Nat.reduceAdd, Int.toNat_natCast, List.length_set, List.length_append, List.length_replicate, List.length_take, Nat.reduceSub, Nat.reduceEqDiff, get_loc, setBox_loc, next_eq, List.length_cons, List.length_nil, List.map_cons, List.map_nil, List.append_nil, List.nil_append, List.cons_append, List.set_cons_zero, List.set_cons_succ, getD_zero, getD_succ, List.getElem?_cons_succ, List.getElem?_cons_zero, List.take_succ_cons, List.take_zero, List.drop_succ_cons, List.all_cons, List.all_nil, Bool.and_true, Bool.true_and, Option.bind_some, Option.map_some, Option.map_none, decide_eq_true_eq, decide_eq_false_iff_not, ne_eq, Bool.not_eq_true, Bool.not_eq_false, Decidable.not_not, not_true_eq_false, not_false_eq_true, forall_const, false_implies, Bool.true_eq_false, Bool.false_eq_true, reduceCtorEq, decide_true, decide_false, Bool.not_true, Bool.not_false, if_true, if_false, Nat.zero_add, Nat.lt_irrefl, Value.oneCell', gt_iff_lt, Nat.reduceLeDiff, Nat.lt_add_one, vvar_2, vzero_2, vknd_2, vsn_2, vvar_3, vzero_3, vknd_3, vsn_3, vvar_4, vzero_4, vknd_4, vsn_4, vsl_27, vkn_27, vvar_27, vzero_27, hml, hg2]; try simp (disch := omega) only [wrap64]) | (with_reducible refine hK' _ ?_; clear hK' K') | (with_reducible refine hK _ ?_; clear hK K) | (with_reducible first | refine And.intro (And.intro rfl rfl) ?_ | refine And.intro (by omega) ?_) | (with_reducible refine And.intro (fun hg => ?_) (fun hg => ?_) <;> first | simp only [eq_false hg, rsB] | simp only [eq_true hg, rsB] | simp only [hg, rsB]) | (with_reducible first | refine And.intro rfl (And.intro rfl rfl) | refine thenQ_n ?_ | refine thenQ_exit ?_ | refine thenQ_ret ?_ | refine midQ_ret ?_ | refine midQ_exit ?_ | refine blockQ_same ?_ | refine blockQ_ne (by decide) ?_ | refine blockQ_ret ?_ | refine blockQ_n ?_ | refine AW.exit ?_ | refine AW.block ?_ | refine AW.cond_t rfl ?_ | refine AW.cond_f rfl ?_ | refine AW.cond_dec rfl (fun hc => ?_) (fun hc => ?_)) | (with_reducible refine AW.cond rfl (fun hc => ?_) (fun hc => ?_) <;> try simp only [Bool.not_eq_eq_eq_not, Bool.not_true, Bool.not_false, decide_eq_true_eq, decide_eq_false_iff_not] at hc) | (with_reducible first | refine AW.seq ?_ | refine AW.skip ?_ | refine AW.ret ?_ | refine And.intro ?_ ?_) | (with_reducible intro hg; first | simp only [eq_false hg, rsB] | simp only [eq_true hg, rsB]) | (with_reducible refine retQ_drop ?_; simp only [vRes, packRes, vLoad, vPart, lk, cond, Nat.reduceBEq, get_loc, getD_zero, getD_succ, true_and, List.length_cons, List.length_nil, Nat.reduceAdd, Nat.reduceLT, Nat.reduceLeDiff, List.take_succ_cons, List.take_zero, List.drop_succ_cons, List.drop_zero, vvar_2, vzero_2, vknd_2, vsn_2, vvar_3, vzero_3, vknd_3, vsn_3, vvar_4, vzero_4, vknd_4, vsn_4, vsl_27, vkn_27, vvar_27, vzero_27]) )
      all_goals try (exfalso; omega)
      · refine ⟨i + 1, by omega, by omega, ?_⟩
        rw [show k + ((i + 1 : Nat) : Int) = k + (i : Int) + 1 by omega]
        exact (Weak.slots (by repeat' first | exact trivial | exact ⟨rfl, trivial⟩ | refine ⟨rfl, ?_⟩))
    · obtain rfl : i = n := by omega
      repeat' (first | (with_reducible first | refine AW.sreg envOk fun K hK => ?_ | refine AW.region envOk fun K hK => ?_ | refine vcL_nil ?_) | (with_reducible (first | refine vcL_cons fun K' hK' => ?_); simp only [isC, Bool.false_or, Bool.or_true, ↓reduceDIte, List.take_length, Nat.le_refl, List.drop_zero, vGuard, undef, Bool.not_eq_eq_eq_not, dstOk, vcOp, vcF, isPure, putS, vcCall, St.ev, St.put, lk, AVal.ofVal, initS, Nat.reduceLT, true_and, and_true, vBin, vPart, vLoad, vIdxA, vLen, AVal.flat, AVal.cell, cellsOk, setRange, ETy.enc, ETy.dec, ETy.sz, ETy.d, cond, Nat.reduceBEq, Nat.reduceAdd, Int.toNat_natCast, List.length_set, List.length_append, List.length_replicate, List.length_take, Nat.reduceSub, Nat.reduceEqDiff, get_loc, setBox_loc, next_eq, List.length_cons, List.length_nil, List.map_cons, List.map_nil, List.append_nil, List.nil_append, List.cons_append, List.set_cons_zero, List.set_cons_succ, getD_zero, getD_succ, List.getElem?_cons_succ, List.getElem?_cons_zero, List.take_succ_cons, List.take_zero, List.drop_succ_cons, List.all_cons, List.all_nil, Bool.and_true, Bool.true_and, Option.bind_some, Option.map_some, Option.map_none, decide_eq_true_eq, decide_eq_false_iff_not, ne_eq, Bool.not_eq_true, Bool.not_eq_false, Decidable.not_not, not_true_eq_false, not_false_eq_true, forall_const, false_implies, Bool.true_eq_false, Bool.false_eq_true, reduceCtorEq, decide_true, decide_false, Bool.not_true, Bool.not_false, if_true, if_false, Nat.zero_add, Nat.lt_irrefl, Value.oneCell', gt_iff_lt, Nat.reduceLeDiff, Nat.lt_add_one, vvar_2, vzero_2, vknd_2, vsn_2, vvar_3, vzero_3, vknd_3, vsn_3, vvar_4, vzero_4, vknd_4, vsn_4, vsl_27, vkn_27, vvar_27, vzero_27, hml]; try simp (disch := omega) only [wrap64]) | (with_reducible refine hK' _ ?_; clear hK' K') | (with_reducible refine hK _ ?_; clear hK K) | (with_reducible first | refine And.intro (And.intro rfl rfl) ?_ | refine And.intro (by omega) ?_) | (with_reducible refine And.intro (fun hg => ?_) (fun hg => ?_) <;> first | simp only [eq_false hg, rsB] | simp only [eq_true hg, rsB] | simp only [hg, rsB]) | (with_reducible first | refine And.intro rfl (And.intro rfl rfl) | refine thenQ_n ?_ | refine thenQ_exit ?_ | refine thenQ_ret ?_ | refine midQ_ret ?_ | refine midQ_exit ?_ | refine blockQ_same ?_ | refine blockQ_ne (by decide) ?_ | refine blockQ_ret ?_ | refine blockQ_n ?_ | refine AW.exit ?_ | refine AW.block ?_ | refine AW.cond_t rfl ?_ | refine AW.cond_f rfl ?_ | refine AW.cond_dec rfl (fun hc => ?_) (fun hc => ?_)) | (with_reducible refine AW.cond rfl (fun hc => ?_) (fun hc => ?_) <;> try simp only [Bool.not_eq_eq_eq_not, Bool.not_true, Bool.not_false, decide_eq_true_eq, decide_eq_false_iff_not] at hc) | (with_reducible first | refine AW.seq ?_ | refine AW.skip ?_ | refine AW.ret ?_ | refine And.intro ?_ ?_) | (with_reducible intro hg; first | simp only [eq_false hg, rsB] | simp only [eq_true hg, rsB]) | (with_reducible refine retQ_drop ?_; simp only [vRes, packRes, vLoad, vPart, lk, cond, Nat.reduceBEq, get_loc, getD_zero, getD_succ, true_and, List.length_cons, List.length_nil, Nat.reduceAdd, Nat.reduceLT, Nat.reduceLeDiff, List.take_succ_cons, List.take_zero, List.drop_succ_cons, List.drop_zero, vvar_2, vzero_2, vknd_2, vsn_2, vvar_3, vzero_3, vknd_3, vsn_3, vvar_4, vzero_4, vknd_4, vsn_4, vsl_27, vkn_27, vvar_27, vzero_27]) )
      all_goals try (exfalso; omega)
      exact ⟨_, _, FinOk.drop hB (Pl.ids (by (repeat' (first | exact Pl.v _ | exact Pl.junk | exact Pl.rd rfl _ | exact pl_nil | refine pl_cons ?_ ?_ | refine Pl.agg ?_ | refine Pl.tup ?_ | refine Pl.rp ?_ | refine Pl.fn ?_)); (first | done | fail))), rfl, rfl⟩
end Go.Proofs.YtlgagjboijkpgaaDoor
/- Walks: a text cut at a mark; lists read. -/
namespace Go.Proofs.YtlgagjboijkpgaaDoor
open Go.Lib Go.Eng
end Go.Proofs.YtlgagjboijkpgaaDoor
/- Walks: lists read by the reference. -/
namespace Go.Proofs.YtlgagjboijkpgaaDoor
open Go.Lib Go.Eng
theorem ptsS_size (m : UInt8) (s : ByteArray) (i : Nat) : ((ptsS m s).getD i ByteArray.empty).size ≤ s.size := by
  by_cases h : i < (ptsS m s).length
  · have hm : (ptsS m s).getD i ByteArray.empty ∈ ptsS m s := by
      simp only [List.getD, List.getElem?_eq_getElem h, Option.getD_some]; exact List.getElem_mem h
    obtain ⟨q, hq, he⟩ := List.mem_map.1 hm
    rw [← he, bsz, ← data_len]
    exact pts_each m _ q hq
  · simp [List.getD, List.getElem?_eq_none (Nat.le_of_not_lt h)]
theorem ptsS_len (m : UInt8) (s : ByteArray) : (ptsS m s).length ≤ s.size + 1 := by
  have := pts_len m s.data.toList
  rw [data_len] at this
  simpa [ptsS] using this
/-- What a reader hands back: the list, new, or nothing. -/
def RdPost (o : Option (List Int)) (H : List ABox) (r : AVal) (H' : List ABox) : Prop := (∃ xs, o = some xs ∧ r = .tup [.sl 1 H.length 0 xs.length, .v (.bool (true))] ∧ H' = H ++ [.row false (.int .i64) xs]) ∨ (o = none ∧ r = .tup [.v (.slice none 0 0), .v (.bool (false))] ∧ H' = H)
end Go.Proofs.YtlgagjboijkpgaaDoor
/- The plain law of texts in two parts; channels and points read; no program in sight. -/
namespace Go.Proofs.YtlgagjboijkpgaaDoor
open Go.Lib Go.Eng
/-- A byte that a number's text may have. -/
def DecB (c : UInt8) : Prop := c.toNat = 45 ∨ (48 ≤ c.toNat ∧ c.toNat ≤ 57)
/-- A byte that a list's text may have. -/
def ListB (c : UInt8) : Prop := c.toNat ≠ 47 ∧ c.toNat ≠ 46
theorem DecB.list {c : UInt8} (h : DecB c) : ListB c := by unfold DecB at h; unfold ListB; omega
end Go.Proofs.YtlgagjboijkpgaaDoor
end
section
set_option linter.unusedSimpArgs false
set_option linter.unusedVariables false
namespace Go.Proofs.YtlgagjboijkpgaaDoor
open Go.Lib Go.Eng
abbrev Mz := List (List Int)
def width (m : Mz) : Nat := (m.getD 0 []).length
def RowIs (w : Nat) (r : List Int) : Prop := r.length = w ∧ ∀ x, x < r.length → 0 ≤ r.getD x 0 ∧ r.getD x 0 ≤ 9
/-- Is a maze valid? -/
def MzOk (m : Mz) : Prop := (1 ≤ m.length ∧ m.length ≤ 12) ∧ (1 ≤ width m ∧ width m ≤ 12) ∧ ∀ y, y < m.length → RowIs (width m) (m.getD y [])
noncomputable instance (m : Mz) : Decidable (MzOk m) := Classical.propDecidable _
/-- The byte of a cell. -/
def cellB (n : Int) : UInt8 := if n = 0 then 35 else UInt8.ofNat (48 + n.toNat)
def rowB (r : List Int) (x : Nat) : List UInt8 := (r.take x).map cellB
theorem rowB_zero (r : List Int) : rowB r 0 = [] := by simp [rowB]
theorem rowB_succ {r : List Int} {x : Nat} (h : x < r.length) : rowB r (x + 1) = rowB r x ++ [cellB (r.getD x 0)] := by
  unfold rowB
  have e : r.take (x + 1) = r.take x ++ [r.getD x 0] := by rw [List.take_add_one, List.getElem?_eq_getElem h]; simp [List.getD, h]
  rw [e, List.map_append]; rfl
theorem rowB_len {r : List Int} {x : Nat} (h : x ≤ r.length) : (rowB r x).length = x := by simp [rowB]; omega
def rowsB (m : Mz) (y : Nat) : List (List UInt8) := (m.take y).map fun r => rowB r r.length
theorem rowsB_succ {m : Mz} {y : Nat} (h : y < m.length) : rowsB m (y + 1) = rowsB m y ++ [rowB (m.getD y []) (m.getD y []).length] := by
  unfold rowsB
  have e : m.take (y + 1) = m.take y ++ [m.getD y []] := by rw [List.take_add_one, List.getElem?_eq_getElem h]; simp [List.getD, h]
  rw [e, List.map_append]; rfl
def mzTo (m : Mz) (y : Nat) : List UInt8 := Lib.join (rowsB m y) [47]
theorem mzTo_zero (m : Mz) : mzTo m 0 = [] := by simp [mzTo, rowsB, join_nil]
/-- What stands before a row. -/
def preB (m : Mz) (y : Nat) : List UInt8 := if y = 0 then [] else mzTo m y ++ [47]
theorem mzTo_succ {m : Mz} {y : Nat} (h : y < m.length) : mzTo m (y + 1) = preB m y ++ rowB (m.getD y []) (m.getD y []).length := by
  unfold mzTo preB
  rw [rowsB_succ h]
  split
  · rename_i h0; subst h0
    simp [rowsB, join_one]
  · rename_i h0
    have hne : rowsB m y ≠ [] := fun hnil => by
      have := congrArg List.length hnil
      simp only [rowsB, List.length_map, List.length_take, List.length_nil] at this
      omega
    rw [join_snoc hne]
    simp [mzTo]
theorem MzOk.row {m : Mz} (h : MzOk m) {y : Nat} (hy : y < m.length) : (m.getD y []).length ≤ 12 ∧ ∀ x, x < (m.getD y []).length → 0 ≤ (m.getD y []).getD x 0 ∧ (m.getD y []).getD x 0 ≤ 9 := by
  have h1 := h.2.2 y hy
  have h2 := h.2.1
  exact ⟨by have := h1.1; omega, h1.2⟩
theorem mzTo_len {m : Mz} (h : MzOk m) (y : Nat) : y ≤ m.length → (mzTo m y).length ≤ 13 * y := by
  induction y with
  | zero => intro _; rw [mzTo_zero]; simp
  | succ y ih =>
    intro hy
    have h1 := ih (by omega)
    have h2 := (h.row (y := y) (by omega)).1
    rw [mzTo_succ (by omega), List.length_append, rowB_len (Nat.le_refl _)]
    unfold preB
    split
    · simp only [List.length_nil]; omega
    · simp only [List.length_append, List.length_cons, List.length_nil]; omega
theorem preB_len {m : Mz} (h : MzOk m) {y : Nat} (hy : y ≤ m.length) : (preB m y).length ≤ 13 * y + 1 := by
  have := mzTo_len h y hy
  unfold preB
  split
  · simp
  · simp only [List.length_append, List.length_cons, List.length_nil]; omega
theorem cellB_at {n : Int} (h : 0 ≤ n ∧ n ≤ 9) (h0 : n ≠ 0) : ((cellB n).toNat : Int) = 48 + n := by
  unfold cellB
  rw [if_neg h0, UInt8.toNat_ofNat', Nat.mod_eq_of_lt (by omega)]
  omega
/-- The text of a maze. -/
def mzB (m : Mz) : List UInt8 := mzTo m m.length
end Go.Proofs.YtlgagjboijkpgaaDoor
end
section
set_option linter.unusedSimpArgs false
set_option linter.unusedVariables false
namespace Go.Proofs.YtlgagjboijkpgaaDoor
open Go.Lib Go.Eng
/-- What a letter of a maze's text says. -/
def convB (c : UInt8) : Int := if c = 35 then 0 else (c.toNat : Int) - 48
def rowR (l : List UInt8) : List Int := l.map convB
def rowsR (l : List UInt8) : Mz := (pts 47 l).map rowR
def mzR (s : ByteArray) : Mz := rowsR s.data.toList
def GoodB (c : UInt8) : Prop := c = 35 ∨ (49 ≤ c.toNat ∧ c.toNat ≤ 57)
instance (c : UInt8) : Decidable (GoodB c) := by unfold GoodB; exact inferInstance
def GoodS (s : ByteArray) : Prop := ∀ p ∈ pts 47 s.data.toList, ∀ c ∈ p, GoodB c
/-- The maze of a text. -/
noncomputable def rdm (s : ByteArray) : Option Mz := open Classical in if GoodS s ∧ MzOk (mzR s) then some (mzR s) else none
theorem cell_conv {c : UInt8} (h : GoodB c) : cellB (convB c) = c := by
  unfold cellB convB
  rcases h with h | h
  · subst h; rfl
  · have hne : c ≠ 35 := fun e => by subst e; simp at h
    rw [if_neg hne, if_neg (by omega)]
    have : ((48 + ((c.toNat : Int) - 48).toNat)) = c.toNat := by omega
    rw [this]
    simp
theorem good_conv {c : UInt8} (h0 : 0 ≤ convB c) (h9 : convB c ≤ 9) (h : cellB (convB c) = c) : GoodB c := by
  unfold convB at h0 h9 h
  by_cases e : c = 35
  · exact .inl e
  · rw [if_neg e] at h0 h9 h
    refine .inr ⟨?_, by omega⟩
    by_cases e48 : c.toNat = 48
    · unfold cellB at h
      rw [if_pos (by omega)] at h
      exact absurd h.symm e
    · omega
/-- A letter more. -/
def addC (m : Mz) (c : UInt8) : Mz := if c = 47 then m ++ [[]] else m.set (m.length - 1) (m.getD (m.length - 1) [] ++ [convB c])
theorem addC_cons {x : List Int} {m : Mz} (h : m ≠ []) (c : UInt8) : addC (x :: m) c = x :: addC m c := by
  unfold addC
  split
  · rfl
  · cases m with
    | nil => exact absurd rfl h
    | cons y r =>
      simp only [List.length_cons, Nat.add_sub_cancel]
      show (x :: y :: r).set (r.length + 1) ((x :: y :: r).getD (r.length + 1) [] ++ _) = _
      rw [List.set_cons_succ]
      rfl
theorem rowsR_ne (l : List UInt8) : rowsR l ≠ [] := fun h => pts_ne 47 l (List.map_eq_nil_iff.1 h)
theorem rowsR_snoc : ∀ (l : List UInt8) (c : UInt8), rowsR (l ++ [c]) = addC (rowsR l) c
  | [], c => by
    by_cases h : c = 47
    · subst h; rfl
    · have e1 : pts 47 [c] = [[c]] := by
        show (if c = 47 then [] :: pts 47 [] else glue [c] (pts 47 [])) = _
        rw [if_neg h]; rfl
      unfold rowsR addC
      rw [if_neg h, List.nil_append, e1]; rfl
  | b :: l, c => by
    have ih := rowsR_snoc l c
    have hne := rowsR_ne l
    by_cases h : b = 47
    · have e1 : ∀ l, rowsR (b :: l) = [] :: rowsR l := fun l => by
        unfold rowsR
        conv => lhs; unfold pts; rw [if_pos h]
        rfl
      rw [List.cons_append, e1, e1, ih, addC_cons hne]
    · have e1 : ∀ l, ∃ p r, pts 47 l = p :: r ∧ rowsR (b :: l) = (convB b :: rowR p) :: r.map rowR ∧ rowsR l = rowR p :: r.map rowR := fun l => by
        cases e : pts 47 l with
        | nil => exact absurd e (pts_ne 47 l)
        | cons p r =>
          refine ⟨p, r, rfl, ?_, ?_⟩
          · unfold rowsR
            conv => lhs; unfold pts; rw [if_neg h, e]
            rfl
          · unfold rowsR; rw [e]; rfl
      obtain ⟨p, r, h1, h2, h3⟩ := e1 l
      obtain ⟨p', r', h1', h2', h3'⟩ := e1 (l ++ [c])
      rw [List.cons_append, h2', h2]
      rw [h3', h3] at ih
      unfold addC at ih ⊢
      by_cases hc : c = 47
      · rw [if_pos hc] at ih ⊢
        simp only [List.cons_append, List.cons.injEq] at ih ⊢
        exact ⟨⟨trivial, ih.1⟩, ih.2⟩
      · rw [if_neg hc] at ih ⊢
        cases r with
        | nil =>
          simp only [List.map_nil, List.length_cons, List.length_nil, Nat.reduceAdd, Nat.sub_self, List.set_cons_zero, List.cons.injEq] at ih ⊢
          exact ⟨by rw [ih.1]; rfl, ih.2⟩
        | cons y q =>
          simp only [List.map_cons, List.length_cons, Nat.add_sub_cancel, List.set_cons_succ, List.cons.injEq] at ih ⊢
          exact ⟨⟨trivial, ih.1⟩, ih.2⟩
theorem join_same {x : UInt8} : ∀ {A B : List (List UInt8)}, A.length = B.length → (∀ i, i < A.length → (A.getD i []).length = (B.getD i []).length) → join A [x] = join B [x] → A = B
  | [], [], _, _, _ => rfl
  | [], _ :: _, h, _, _ => by simp at h
  | _ :: _, [], h, _, _ => by simp at h
  | a :: A, b :: B, h, hl, hj => by
    have h0 : a.length = b.length := hl 0 (by simp)
    have hr : ∀ i, i < A.length → (A.getD i []).length = (B.getD i []).length := fun i hi => hl (i + 1) (by simpa using hi)
    have hAB : A.length = B.length := by simpa using h
    rw [join_cons, join_cons] at hj
    obtain ⟨e1, e2⟩ := List.append_inj hj h0
    cases A with
    | nil =>
      cases B with
      | nil => rw [e1]
      | cons _ _ => simp at hAB
    | cons a2 A2 =>
      cases B with
      | nil => simp at hAB
      | cons b2 B2 =>
        have e3 : join (a2 :: A2) [x] = join (b2 :: B2) [x] := by
          rw [join_cons, join_cons]
          have t : ∀ (y : List UInt8) (Y : List (List UInt8)), joinTail [x] (y :: Y) = x :: (y ++ joinTail [x] Y) := fun y Y => by simp [joinTail]
          rw [t, t] at e2
          injection e2
        rw [e1, join_same hAB hr e3]
theorem join_pts (m : UInt8) : ∀ l : List UInt8, join (pts m l) [m] = l
  | [] => by simp [pts, join_one]
  | c :: l => by
    have ih := join_pts m l
    unfold pts
    split
    · rename_i h
      rw [join_cons]
      cases e : pts m l with
      | nil => exact absurd e (pts_ne m l)
      | cons p r =>
        rw [e, join_cons] at ih
        show joinTail [m] (p :: r) = c :: l
        rw [show joinTail [m] (p :: r) = m :: (p ++ joinTail [m] r) by simp [joinTail], ih, h]
    · cases e : pts m l with
      | nil => exact absurd e (pts_ne m l)
      | cons p r =>
        rw [e, join_cons] at ih
        show join (([c] ++ p) :: r) [m] = c :: l
        rw [join_cons, List.append_assoc, ih]; rfl
theorem mzB_eq (m : Mz) : mzB m = join (m.map fun r => r.map cellB) [47] := by
  unfold mzB mzTo rowsB rowB
  rw [List.take_length]
  congr 1
  refine List.map_congr_left fun r _ => ?_
  rw [List.take_length]
/-- The reference's test comes to the same. -/
theorem mz_back {s : ByteArray} (h : MzOk (mzR s)) : mzB (mzR s) = s.data.toList ↔ GoodS s := by
  have hj := join_pts 47 s.data.toList
  rw [mzB_eq]
  unfold mzR rowsR
  rw [List.map_map]
  constructor
  · intro e
    have hs := join_same (A := (pts 47 s.data.toList).map ((fun r => r.map cellB) ∘ rowR)) (B := pts 47 s.data.toList) (by simp) (fun i hi => by
      have hi' : i < (pts 47 s.data.toList).length := by simpa using hi
      simp [List.getD, hi', rowR]) (e.trans hj.symm)
    intro p hp c hc
    obtain ⟨i, hi, ei⟩ := List.mem_iff_getElem.1 hp
    obtain ⟨j, hj', ej⟩ := List.mem_iff_getElem.1 hc
    have hrow := h.2.2 i (by unfold mzR rowsR; simpa using hi)
    have hcell := hrow.2 j (by unfold mzR rowsR; simp [List.getD, hi, ei, rowR, hj'])
    have hv : ((mzR s).getD i []).getD j 0 = convB c := by unfold mzR rowsR; simp [List.getD, hi, ei, rowR, hj', ej]
    rw [hv] at hcell
    have hpi : (rowR p).map cellB = p := by
      have := congrArg (fun L => L.getD i []) hs
      simpa [List.getD, hi, ei] using this
    have hcj : cellB (convB c) = c := by
      have := congrArg (fun L => L.getD j 0) hpi
      simpa [List.getD, hj', ej, rowR] using this
    exact good_conv hcell.1 hcell.2 hcj
  · intro hg
    have e : (pts 47 s.data.toList).map ((fun r => r.map cellB) ∘ rowR) = pts 47 s.data.toList := by
      conv => rhs; rw [← List.map_id (pts 47 s.data.toList)]
      refine List.map_congr_left fun p hp => ?_
      show (rowR p).map cellB = p
      unfold rowR
      rw [List.map_map]
      conv => rhs; rw [← List.map_id p]
      exact List.map_congr_left fun c hc => cell_conv (hg p hp c hc)
    rw [e, hj]
theorem rdm_size {s : ByteArray} {m : Mz} (h : rdm s = some m) : s.size ≤ 200 ∧ m = mzR s ∧ MzOk (mzR s) ∧ GoodS s := by
  unfold rdm at h
  split at h
  · rename_i hg
    cases h
    have hb := (mz_back hg.2).2 hg.1
    have hl := mzTo_len hg.2 (mzR s).length (Nat.le_refl _)
    have h12 := hg.2.1
    refine ⟨?_, rfl, hg.2, hg.1⟩
    rw [bsz, ← hb]
    unfold mzB
    omega
  · cases h
end Go.Proofs.YtlgagjboijkpgaaDoor
end
section
set_option linter.unusedSimpArgs false
set_option linter.unusedVariables false
set_option maxHeartbeats 1000000
namespace Go.Proofs.YtlgagjboijkpgaaDoor
open Go.Eng
theorem list_extd {α : Type} (d : α) (xs ys : List α) (hl : xs.length = ys.length) (h : ∀ j, j < xs.length → xs.getD j d = ys.getD j d) : xs = ys := by
  apply List.ext_getElem? ; intro j
  by_cases hj : j < xs.length
  · have := h j hj
    simp only [List.getD, List.getElem?_eq_getElem hj, List.getElem?_eq_getElem (show j < ys.length by omega), Option.getD_some] at this ⊢
    rw [this]
  · rw [List.getElem?_eq_none (by omega), List.getElem?_eq_none (by omega)]
/-- No list is longer than that. -/
def Fits (n : Nat) (m : Mz) : Prop := m.length ≤ n ∧ ∀ i, (m.getD i []).length ≤ n
theorem eqSS_ac (a b : Mz) (ha : Fits 1048576 a) (hb : Fits 1048576 b) (H : List ABox) : AC Tryd.prog 78 [.rd (.sli .i64) (a), .rd (.sli .i64) (b)] H (fun r H' => r = .v (.bool (decide (a = b))) ∧ H' = H) := by
  obtain ⟨ha1, ha2⟩ := ha
  obtain ⟨hb1, hb2⟩ := hb
  refine AC.enter envOk Tryd.func78 rfl (by decide) Tryd.ntmps78 Tryd.results78 (by simp) fun hB => ?_
  repeat' (first | (with_reducible first | refine AW.sreg envOk fun K hK => ?_ | refine AW.region envOk fun K hK => ?_) | (with_reducible refine AW.d0reg envOk mixed ?_ ?_ fun K hK => ?_; (first | rfl | exact base_len | exact base_len0); kernel_rfl) | (with_reducible refine AW.d0 envOk mixed ?_ ?_ fun K hK => ?_; (first | rfl | exact base_len | exact base_len0); kernel_rfl) | (with_reducible first | refine vcD_nil ?_ | refine vcL_nil ?_) | (with_reducible (first | refine vcD_cons fun K' hK' => ?_ | refine vcL_cons fun K' hK' => ?_); simp only [isC, Bool.false_or, Bool.or_true, ↓reduceDIte, List.take_length, Nat.le_refl, List.drop_zero, vGuard, undef, Bool.not_eq_eq_eq_not, dstOk, vcOp, vcF, isPure, putS, vcCall, St.ev, St.put, lk, AVal.ofVal, initS, Nat.reduceLT, true_and, and_true, vBin, vUn, vPart, vLoad, vIdxA, vLen, AVal.flat, AVal.cell, cellsOk, setRange, ETy.enc, ETy.dec, ETy.sz, ETy.d, cond, Nat.reduceBEq, Nat.reduceAdd, Int.toNat_natCast, List.length_set, List.length_append, List.length_replicate, List.length_take, Nat.reduceSub, Nat.reduceEqDiff, get_loc, setBox_loc, next_eq, List.length_cons, List.length_nil, List.map_cons, List.map_nil, List.append_nil, List.nil_append, List.cons_append, List.set_cons_zero, List.set_cons_succ, getD_zero, getD_succ, List.getElem?_cons_succ, List.getElem?_cons_zero, List.take_succ_cons, List.take_zero, List.drop_succ_cons, List.all_cons, List.all_nil, Bool.and_true, Bool.true_and, Option.bind_some, Option.map_some, Option.map_none, decide_eq_true_eq, decide_eq_false_iff_not, ne_eq, Bool.not_eq_true, Bool.not_eq_false, Decidable.not_not, not_true_eq_false, not_false_eq_true, forall_const, false_implies, Bool.true_eq_false, Bool.false_eq_true, reduceCtorEq, decide_true, decide_false, Bool.not_true, Bool.not_false, if_true, if_false, Nat.zero_add, Nat.lt_irrefl, Value.oneCell', gt_iff_lt, Nat.reduceLeDiff, Nat.lt_add_one, vvar_3, vzero_3, vknd_3, vsn_3, vvar_4, vzero_4, vknd_4, vsn_4, vsl_27, vkn_27, vvar_27, vzero_27, vsl_46, vkn_46, vvar_46, vzero_46]; try simp (disch := omega) only [wrap64]) | (with_reducible refine hK' _ ?_; clear hK' K') | (with_reducible refine hK _ ?_; clear hK K) | (with_reducible first | refine And.intro (And.intro rfl rfl) ?_ | refine And.intro (by omega) ?_) | (with_reducible refine And.intro (fun hg => ?_) (fun hg => ?_) <;> first | simp only [eq_false hg, rsB] | simp only [eq_true hg, rsB] | simp only [hg, rsB]) | (with_reducible first | refine And.intro rfl (And.intro rfl rfl) | refine thenQ_n ?_ | refine thenQ_exit ?_ | refine thenQ_ret ?_ | refine midQ_ret ?_ | refine midQ_exit ?_ | refine blockQ_same ?_ | refine blockQ_ne (by decide) ?_ | refine blockQ_ret ?_ | refine blockQ_n ?_ | refine AW.exit ?_ | refine AW.block ?_ | refine AW.cond_t rfl ?_ | refine AW.cond_f rfl ?_ | refine AW.cond_dec rfl (fun hc => ?_) (fun hc => ?_)) | (with_reducible refine AW.cond rfl (fun hc => ?_) (fun hc => ?_) <;> try simp only [Bool.not_eq_eq_eq_not, Bool.not_true, Bool.not_false, decide_eq_true_eq, decide_eq_false_iff_not] at hc) | (with_reducible first | refine AW.seq ?_ | refine AW.skip ?_ | refine AW.ret ?_ | refine And.intro ?_ ?_) | (with_reducible intro hg; first | simp only [eq_false hg, rsB] | simp only [eq_true hg, rsB]) | (with_reducible refine retQ_drop ?_; simp only [vRes, packRes, vLoad, vPart, lk, cond, Nat.reduceBEq, get_loc, getD_zero, getD_succ, true_and, List.length_cons, List.length_nil, Nat.reduceAdd, Nat.reduceLT, Nat.reduceLeDiff, List.take_succ_cons, List.take_zero, List.drop_succ_cons, List.drop_zero, vvar_3, vzero_3, vknd_3, vsn_3, vvar_4, vzero_4, vknd_4, vsn_4, vsl_27, vkn_27, vvar_27, vzero_27, vsl_46, vkn_46, vvar_46, vzero_46]) )
  · refine ⟨_, _, FinOk.drop hB (Pl.ids (by (repeat' (first | exact Pl.v _ | exact Pl.junk | exact Pl.rd rfl _ | exact pl_nil | refine pl_cons ?_ ?_ | refine Pl.agg ?_ | refine Pl.tup ?_ | refine Pl.rp ?_ | refine Pl.fn ?_)); (first | done | fail))), ?_, rfl⟩
    refine v_bool ?_
    simp only [Bool.false_eq_true, false_iff]
    intro h; subst h; simp_all
  refine AW.loop (fun i : Nat => (⟨27, [(0, .rd (.sli .i64) (a)), (1, .rd (.sli .i64) (b)), (5, .v (.int .i64 ((i : Int))))], H, []⟩ : St)) (fun i => i ≤ a.length ∧ ∀ j, j < i → a.getD j [] = b.getD j []) (fun i => a.length - i) 0 ⟨Nat.zero_le _, fun j h => absurd h (by omega)⟩ (Weak.slots (by repeat' first | exact trivial | exact ⟨rfl, trivial⟩ | refine ⟨rfl, ?_⟩)) ?_
  intro i ⟨hi, hI⟩
  have hlen : a.length = b.length := by omega
  have h1 := ha2 i
  have h2 := hb2 i
  repeat' (first | (with_reducible first | refine AW.sreg envOk fun K hK => ?_ | refine AW.region envOk fun K hK => ?_) | (with_reducible refine AW.d0reg envOk mixed ?_ ?_ fun K hK => ?_; (first | rfl | exact base_len | exact base_len0); kernel_rfl) | (with_reducible refine AW.d0 envOk mixed ?_ ?_ fun K hK => ?_; (first | rfl | exact base_len | exact base_len0); kernel_rfl) | (with_reducible first | refine vcD_nil ?_ | refine vcL_nil ?_) | (with_reducible (first | refine vcD_cons fun K' hK' => ?_ | refine vcL_cons fun K' hK' => ?_); simp only [isC, Bool.false_or, Bool.or_true, ↓reduceDIte, List.take_length, Nat.le_refl, List.drop_zero, vGuard, undef, Bool.not_eq_eq_eq_not, dstOk, vcOp, vcF, isPure, putS, vcCall, St.ev, St.put, lk, AVal.ofVal, initS, Nat.reduceLT, true_and, and_true, vBin, vUn, vPart, vLoad, vIdxA, vLen, AVal.flat, AVal.cell, cellsOk, setRange, ETy.enc, ETy.dec, ETy.sz, ETy.d, cond, Nat.reduceBEq, Nat.reduceAdd, Int.toNat_natCast, List.length_set, List.length_append, List.length_replicate, List.length_take, Nat.reduceSub, Nat.reduceEqDiff, get_loc, setBox_loc, next_eq, List.length_cons, List.length_nil, List.map_cons, List.map_nil, List.append_nil, List.nil_append, List.cons_append, List.set_cons_zero, List.set_cons_succ, getD_zero, getD_succ, List.getElem?_cons_succ, List.getElem?_cons_zero, List.take_succ_cons, List.take_zero, List.drop_succ_cons, List.all_cons, List.all_nil, Bool.and_true, Bool.true_and, Option.bind_some, Option.map_some, Option.map_none, decide_eq_true_eq, decide_eq_false_iff_not, ne_eq, Bool.not_eq_true, Bool.not_eq_false, Decidable.not_not, not_true_eq_false, not_false_eq_true, forall_const, false_implies, Bool.true_eq_false, Bool.false_eq_true, reduceCtorEq, decide_true, decide_false, Bool.not_true, Bool.not_false, if_true, if_false, Nat.zero_add, Nat.lt_irrefl, Value.oneCell', gt_iff_lt, Nat.reduceLeDiff, Nat.lt_add_one, vvar_3, vzero_3, vknd_3, vsn_3, vvar_4, vzero_4, vknd_4, vsn_4, vsl_27, vkn_27, vvar_27, vzero_27, vsl_46, vkn_46, vvar_46, vzero_46]; try simp (disch := omega) only [wrap64]) | (with_reducible refine hK' _ ?_; clear hK' K') | (with_reducible refine hK _ ?_; clear hK K) | (with_reducible first | refine vcC_pure (eqInts_ac _ _ (by omega) (by omega) _) ?_ | refine vCall_pure (eqInts_ac _ _ (by omega) (by omega) _) ?_ | refine And.intro (And.intro rfl rfl) ?_ | refine And.intro (by omega) ?_) | (with_reducible refine And.intro (fun hg => ?_) (fun hg => ?_) <;> first | simp only [eq_false hg, rsB] | simp only [eq_true hg, rsB] | simp only [hg, rsB]) | (with_reducible first | refine And.intro rfl (And.intro rfl rfl) | refine thenQ_n ?_ | refine thenQ_exit ?_ | refine thenQ_ret ?_ | refine midQ_ret ?_ | refine midQ_exit ?_ | refine blockQ_same ?_ | refine blockQ_ne (by decide) ?_ | refine blockQ_ret ?_ | refine blockQ_n ?_ | refine AW.exit ?_ | refine AW.block ?_ | refine AW.cond_t rfl ?_ | refine AW.cond_f rfl ?_ | refine AW.cond_dec rfl (fun hc => ?_) (fun hc => ?_)) | (with_reducible refine AW.cond rfl (fun hc => ?_) (fun hc => ?_) <;> try simp only [Bool.not_eq_eq_eq_not, Bool.not_true, Bool.not_false, decide_eq_true_eq, decide_eq_false_iff_not] at hc) | (with_reducible first | refine AW.seq ?_ | refine AW.skip ?_ | refine AW.ret ?_ | refine And.intro ?_ ?_) | (with_reducible intro hg; first | simp only [eq_false hg, rsB] | simp only [eq_true hg, rsB]) | (with_reducible refine retQ_drop ?_; simp only [vRes, packRes, vLoad, vPart, lk, cond, Nat.reduceBEq, get_loc, getD_zero, getD_succ, true_and, List.length_cons, List.length_nil, Nat.reduceAdd, Nat.reduceLT, Nat.reduceLeDiff, List.take_succ_cons, List.take_zero, List.drop_succ_cons, List.drop_zero, vvar_3, vzero_3, vknd_3, vsn_3, vvar_4, vzero_4, vknd_4, vsn_4, vsl_27, vkn_27, vvar_27, vzero_27, vsl_46, vkn_46, vvar_46, vzero_46]) )
  all_goals first
    | (refine ⟨_, _, FinOk.drop hB (Pl.ids (by (repeat' (first | exact Pl.v _ | exact Pl.junk | exact Pl.rd rfl _ | exact pl_nil | refine pl_cons ?_ ?_ | refine Pl.agg ?_ | refine Pl.tup ?_ | refine Pl.rp ?_ | refine Pl.fn ?_)); (first | done | fail))), ?_, rfl⟩
       refine v_bool ?_
       simp only [Bool.false_eq_true, false_iff]
       intro h; subst h; exact absurd rfl (by assumption))
    | (refine ⟨i + 1, ⟨by omega, fun j hj => ?_⟩, by omega, (Weak.slots (by repeat' first | exact trivial | exact ⟨rfl, trivial⟩ | refine ⟨rfl, ?_⟩))⟩
       by_cases e : j = i
       · subst e; first | assumption | (simp only [Decidable.not_not] at *; assumption)
       · exact hI j (by omega))
    | (refine ⟨_, _, FinOk.drop hB (Pl.ids (by (repeat' (first | exact Pl.v _ | exact Pl.junk | exact Pl.rd rfl _ | exact pl_nil | refine pl_cons ?_ ?_ | refine Pl.agg ?_ | refine Pl.tup ?_ | refine Pl.rp ?_ | refine Pl.fn ?_)); (first | done | fail))), ?_, rfl⟩
       refine v_bool ?_
       simp only [true_iff]
       exact list_extd [] a b hlen (fun j hj => hI j (by omega)))
theorem eqMz_ac (a b : Mz) (ha : Fits 1048576 a) (hb : Fits 1048576 b) (H : List ABox) : AC Tryd.prog 38 [.agg [.rd (.sli .i64) (a)], .agg [.rd (.sli .i64) (b)]] H (fun r H' => r = .v (.bool (decide (a = b))) ∧ H' = H) := by
  refine AC.enter envOk Tryd.func38 rfl (by decide) Tryd.ntmps38 Tryd.results38 (by simp) fun hB => ?_
  repeat' (first | (with_reducible first | refine AW.sreg envOk fun K hK => ?_ | refine AW.region envOk fun K hK => ?_ | refine vcL_nil ?_) | (with_reducible (first | refine vcL_cons fun K' hK' => ?_); simp only [isC, Bool.false_or, Bool.or_true, ↓reduceDIte, List.take_length, Nat.le_refl, List.drop_zero, vGuard, undef, Bool.not_eq_eq_eq_not, dstOk, vcOp, vcF, isPure, putS, vcCall, St.ev, St.put, lk, AVal.ofVal, initS, Nat.reduceLT, true_and, and_true, vUn, vPart, vLoad, vFldA, vBox, partsA, fillA, decAll, AVal.flat, AVal.cell, cellsOk, setRange, ETy.enc, ETy.dec, ETy.sz, ETy.d, cond, Nat.reduceBEq, Nat.reduceAdd, Int.toNat_natCast, List.length_set, List.length_append, List.length_replicate, List.length_take, Nat.reduceSub, Nat.reduceEqDiff, get_loc, setBox_loc, next_eq, List.length_cons, List.length_nil, List.map_cons, List.map_nil, List.append_nil, List.nil_append, List.cons_append, List.set_cons_zero, List.set_cons_succ, getD_zero, getD_succ, List.getElem?_cons_succ, List.getElem?_cons_zero, List.take_succ_cons, List.take_zero, List.drop_succ_cons, List.all_cons, List.all_nil, Bool.and_true, Bool.true_and, Option.bind_some, Option.map_some, Option.map_none, decide_eq_true_eq, decide_eq_false_iff_not, ne_eq, Bool.not_eq_true, Bool.not_eq_false, Decidable.not_not, not_true_eq_false, not_false_eq_true, forall_const, false_implies, Bool.true_eq_false, Bool.false_eq_true, reduceCtorEq, decide_true, decide_false, Bool.not_true, Bool.not_false, if_true, if_false, Nat.zero_add, Nat.lt_irrefl, Value.oneCell', gt_iff_lt, Nat.reduceLeDiff, Nat.lt_add_one, vvar_4, vzero_4, vknd_4, vsn_4, vsl_46, vkn_46, vvar_46, vzero_46, vvar_51, vzero_51, vbld_51, vfld_51_0]; try simp (disch := omega) only [wrap64]) | (with_reducible refine hK' _ ?_; clear hK' K') | (with_reducible refine hK _ ?_; clear hK K) | (with_reducible first | refine vCall_pure (eqSS_ac a b ha hb _) ?_ | refine And.intro (And.intro rfl rfl) ?_ | refine And.intro (by omega) ?_) | (with_reducible refine And.intro (fun hg => ?_) (fun hg => ?_) <;> first | simp only [eq_false hg, rsB] | simp only [eq_true hg, rsB] | simp only [hg, rsB]) | (with_reducible first | refine And.intro rfl (And.intro rfl rfl) | refine thenQ_n ?_ | refine thenQ_exit ?_ | refine thenQ_ret ?_ | refine midQ_ret ?_ | refine midQ_exit ?_ | refine blockQ_same ?_ | refine blockQ_ne (by decide) ?_ | refine blockQ_ret ?_ | refine blockQ_n ?_ | refine AW.exit ?_ | refine AW.block ?_ | refine AW.cond_t rfl ?_ | refine AW.cond_f rfl ?_ | refine AW.cond_dec rfl (fun hc => ?_) (fun hc => ?_)) | (with_reducible refine AW.cond rfl (fun hc => ?_) (fun hc => ?_) <;> try simp only [Bool.not_eq_eq_eq_not, Bool.not_true, Bool.not_false, decide_eq_true_eq, decide_eq_false_iff_not] at hc) | (with_reducible first | refine AW.seq ?_ | refine AW.skip ?_ | refine AW.ret ?_ | refine And.intro ?_ ?_) | (with_reducible intro hg; first | simp only [eq_false hg, rsB] | simp only [eq_true hg, rsB]) | (with_reducible refine retQ_drop ?_; simp only [vRes, packRes, vLoad, vPart, lk, cond, Nat.reduceBEq, get_loc, getD_zero, getD_succ, true_and, List.length_cons, List.length_nil, Nat.reduceAdd, Nat.reduceLT, Nat.reduceLeDiff, List.take_succ_cons, List.take_zero, List.drop_succ_cons, List.drop_zero, vvar_4, vzero_4, vknd_4, vsn_4, vsl_46, vkn_46, vvar_46, vzero_46, vvar_51, vzero_51, vbld_51, vfld_51_0]) )
  all_goals refine ⟨_, _, FinOk.drop hB (Pl.ids (by (repeat' (first | exact Pl.v _ | exact Pl.junk | exact Pl.rd rfl _ | exact pl_nil | refine pl_cons ?_ ?_ | refine Pl.agg ?_ | refine Pl.tup ?_ | refine Pl.rp ?_ | refine Pl.fn ?_)); (first | done | fail))), ?_, rfl⟩
  all_goals refine v_bool ?_
  all_goals simp [*]
theorem getD_none {m : Mz} {y : Nat} (h : ¬ y < m.length) : m.getD y [] = [] := by simp [List.getD, List.getElem?_eq_none (Nat.le_of_not_lt h)]
theorem is73_ac (m : Mz) (hm : Fits 1048576 m) (H : List ABox) : AC Tryd.prog 73 [.rp [.rd (.sli .i64) (m)] 0] H (fun r H' => r = .v (.bool (decide (MzOk m))) ∧ H' = H) := by
  obtain ⟨hm1, hm2⟩ := hm
  have h0 := hm2 0
  refine AC.enter envOk Tryd.func73 rfl (by decide) Tryd.ntmps73 Tryd.results73 (by simp) fun hB => ?_
  repeat' (first | (with_reducible first | refine AW.sreg envOk fun K hK => ?_ | refine AW.region envOk fun K hK => ?_) | (with_reducible refine AW.d0reg envOk mixed ?_ ?_ fun K hK => ?_; (first | rfl | exact base_len | exact base_len0); kernel_rfl) | (with_reducible refine AW.d0 envOk mixed ?_ ?_ fun K hK => ?_; (first | rfl | exact base_len | exact base_len0); kernel_rfl) | (with_reducible first | refine vcD_nil ?_ | refine vcL_nil ?_) | (with_reducible (first | refine vcD_cons fun K' hK' => ?_ | refine vcL_cons fun K' hK' => ?_); simp only [isC, Bool.false_or, Bool.or_true, ↓reduceDIte, List.take_length, Nat.le_refl, List.drop_zero, vGuard, undef, Bool.not_eq_eq_eq_not, dstOk, vcOp, vcF, isPure, putS, vcCall, St.ev, St.put, lk, AVal.ofVal, initS, Nat.reduceLT, true_and, and_true, vBin, vUn, vPick, vPart, vLoad, vIdxA, vFldA, vLen, vNil, AVal.flat, AVal.cell, cellsOk, setRange, ETy.enc, ETy.dec, ETy.sz, ETy.d, cond, Nat.reduceBEq, Nat.reduceAdd, Int.toNat_natCast, List.length_set, List.length_append, List.length_replicate, List.length_take, Nat.reduceSub, Nat.reduceEqDiff, get_loc, setBox_loc, next_eq, List.length_cons, List.length_nil, List.map_cons, List.map_nil, List.append_nil, List.nil_append, List.cons_append, List.set_cons_zero, List.set_cons_succ, getD_zero, getD_succ, List.getElem?_cons_succ, List.getElem?_cons_zero, List.take_succ_cons, List.take_zero, List.drop_succ_cons, List.all_cons, List.all_nil, Bool.and_true, Bool.true_and, Option.bind_some, Option.map_some, Option.map_none, decide_eq_true_eq, decide_eq_false_iff_not, ne_eq, Bool.not_eq_true, Bool.not_eq_false, Decidable.not_not, not_true_eq_false, not_false_eq_true, forall_const, false_implies, Bool.true_eq_false, Bool.false_eq_true, reduceCtorEq, decide_true, decide_false, Bool.not_true, Bool.not_false, if_true, if_false, Nat.zero_add, Nat.lt_irrefl, Value.oneCell', gt_iff_lt, Nat.reduceLeDiff, Nat.lt_add_one, vvar_2, vzero_2, vknd_2, vsn_2, vvar_3, vzero_3, vknd_3, vsn_3, vvar_4, vzero_4, vknd_4, vsn_4, vsl_27, vkn_27, vvar_27, vzero_27, vsl_46, vkn_46, vvar_46, vzero_46, vvar_51, vzero_51, vbld_51, vvar_90, vzero_90, vfld_51_0, Int.toNat_zero, Int.reduceToNat]; try simp (disch := omega) only [wrap64]) | (with_reducible refine hK' _ ?_; clear hK' K') | (with_reducible refine hK _ ?_; clear hK K) | (with_reducible first | refine vcC_pure (in53_ac _ _ _ _) ?_ | refine vCall_pure (in53_ac _ _ _ _) ?_ | refine And.intro (And.intro rfl rfl) ?_ | refine And.intro (by omega) ?_) | (with_reducible refine And.intro (fun hg => ?_) (fun hg => ?_) <;> first | simp only [eq_false hg, rsB] | simp only [eq_true hg, rsB] | simp only [hg, rsB]) | (with_reducible first | refine And.intro rfl (And.intro rfl rfl) | refine thenQ_n ?_ | refine thenQ_exit ?_ | refine thenQ_ret ?_ | refine midQ_ret ?_ | refine midQ_exit ?_ | refine blockQ_same ?_ | refine blockQ_ne (by decide) ?_ | refine blockQ_ret ?_ | refine blockQ_n ?_ | refine AW.exit ?_ | refine AW.block ?_ | refine AW.cond_t rfl ?_ | refine AW.cond_f rfl ?_ | refine AW.cond_dec rfl (fun hc => ?_) (fun hc => ?_)) | (with_reducible refine AW.cond rfl (fun hc => ?_) (fun hc => ?_) <;> try simp only [Bool.not_eq_eq_eq_not, Bool.not_true, Bool.not_false, decide_eq_true_eq, decide_eq_false_iff_not] at hc) | (with_reducible first | refine AW.seq ?_ | refine AW.skip ?_ | refine AW.ret ?_ | refine And.intro ?_ ?_) | (with_reducible intro hg; first | simp only [eq_false hg, rsB] | simp only [eq_true hg, rsB]) | (with_reducible refine retQ_drop ?_; simp only [vRes, packRes, vLoad, vPart, lk, cond, Nat.reduceBEq, get_loc, getD_zero, getD_succ, true_and, List.length_cons, List.length_nil, Nat.reduceAdd, Nat.reduceLT, Nat.reduceLeDiff, List.take_succ_cons, List.take_zero, List.drop_succ_cons, List.drop_zero, vvar_2, vzero_2, vknd_2, vsn_2, vvar_3, vzero_3, vknd_3, vsn_3, vvar_4, vzero_4, vknd_4, vsn_4, vsl_27, vkn_27, vvar_27, vzero_27, vsl_46, vkn_46, vvar_46, vzero_46, vvar_51, vzero_51, vbld_51, vvar_90, vzero_90, vfld_51_0]) )
  all_goals first
    | (refine ⟨_, _, FinOk.drop hB (Pl.ids (by (repeat' (first | exact Pl.v _ | exact Pl.junk | exact Pl.rd rfl _ | exact pl_nil | refine pl_cons ?_ ?_ | refine Pl.agg ?_ | refine Pl.tup ?_ | refine Pl.rp ?_ | refine Pl.fn ?_)); (first | done | fail))), ?_, rfl⟩
       refine v_bool ?_
       simp only [Bool.false_eq_true, false_iff]
       intro h; have h1 := h.1; have h2 := h.2.1; unfold width at h2; omega)
    | skip
  refine AW.loop (fun y : Nat => (⟨72, [(0, .rp [.rd (.sli .i64) (m)] 0), (3, .v (.int .i64 ((y : Int))))], H, []⟩ : St)) (fun y => y ≤ m.length ∧ ∀ j, j < y → RowIs (width m) (m.getD j [])) (fun y => m.length - y) 0 ⟨Nat.zero_le _, fun j h => absurd h (by omega)⟩ (Weak.slots (by repeat' first | exact trivial | exact ⟨rfl, trivial⟩ | refine ⟨rfl, ?_⟩)) ?_
  intro y ⟨hy, hY⟩
  have hl := hm2 y
  repeat' (first | (with_reducible first | refine AW.sreg envOk fun K hK => ?_ | refine AW.region envOk fun K hK => ?_) | (with_reducible refine AW.d0reg envOk mixed ?_ ?_ fun K hK => ?_; (first | rfl | exact base_len | exact base_len0); kernel_rfl) | (with_reducible refine AW.d0 envOk mixed ?_ ?_ fun K hK => ?_; (first | rfl | exact base_len | exact base_len0); kernel_rfl) | (with_reducible first | refine vcD_nil ?_ | refine vcL_nil ?_) | (with_reducible (first | refine vcD_cons fun K' hK' => ?_ | refine vcL_cons fun K' hK' => ?_); simp only [isC, Bool.false_or, Bool.or_true, ↓reduceDIte, List.take_length, Nat.le_refl, List.drop_zero, vGuard, undef, Bool.not_eq_eq_eq_not, dstOk, vcOp, vcF, isPure, putS, vcCall, St.ev, St.put, lk, AVal.ofVal, initS, Nat.reduceLT, true_and, and_true, vBin, vUn, vPick, vPart, vLoad, vIdxA, vFldA, vLen, vNil, AVal.flat, AVal.cell, cellsOk, setRange, ETy.enc, ETy.dec, ETy.sz, ETy.d, cond, Nat.reduceBEq, Nat.reduceAdd, Int.toNat_natCast, List.length_set, List.length_append, List.length_replicate, List.length_take, Nat.reduceSub, Nat.reduceEqDiff, get_loc, setBox_loc, next_eq, List.length_cons, List.length_nil, List.map_cons, List.map_nil, List.append_nil, List.nil_append, List.cons_append, List.set_cons_zero, List.set_cons_succ, getD_zero, getD_succ, List.getElem?_cons_succ, List.getElem?_cons_zero, List.take_succ_cons, List.take_zero, List.drop_succ_cons, List.all_cons, List.all_nil, Bool.and_true, Bool.true_and, Option.bind_some, Option.map_some, Option.map_none, decide_eq_true_eq, decide_eq_false_iff_not, ne_eq, Bool.not_eq_true, Bool.not_eq_false, Decidable.not_not, not_true_eq_false, not_false_eq_true, forall_const, false_implies, Bool.true_eq_false, Bool.false_eq_true, reduceCtorEq, decide_true, decide_false, Bool.not_true, Bool.not_false, if_true, if_false, Nat.zero_add, Nat.lt_irrefl, Value.oneCell', gt_iff_lt, Nat.reduceLeDiff, Nat.lt_add_one, vvar_2, vzero_2, vknd_2, vsn_2, vvar_3, vzero_3, vknd_3, vsn_3, vvar_4, vzero_4, vknd_4, vsn_4, vsl_27, vkn_27, vvar_27, vzero_27, vsl_46, vkn_46, vvar_46, vzero_46, vvar_51, vzero_51, vbld_51, vvar_90, vzero_90, vfld_51_0, Int.toNat_zero, Int.reduceToNat]; try simp (disch := omega) only [wrap64]) | (with_reducible refine hK' _ ?_; clear hK' K') | (with_reducible refine hK _ ?_; clear hK K) | (with_reducible first | refine vcC_pure (in53_ac _ _ _ _) ?_ | refine vCall_pure (in53_ac _ _ _ _) ?_ | refine And.intro (And.intro rfl rfl) ?_ | refine And.intro (by omega) ?_) | (with_reducible refine And.intro (fun hg => ?_) (fun hg => ?_) <;> first | simp only [eq_false hg, rsB] | simp only [eq_true hg, rsB] | simp only [hg, rsB]) | (with_reducible first | refine And.intro rfl (And.intro rfl rfl) | refine thenQ_n ?_ | refine thenQ_exit ?_ | refine thenQ_ret ?_ | refine midQ_ret ?_ | refine midQ_exit ?_ | refine blockQ_same ?_ | refine blockQ_ne (by decide) ?_ | refine blockQ_ret ?_ | refine blockQ_n ?_ | refine AW.exit ?_ | refine AW.block ?_ | refine AW.cond_t rfl ?_ | refine AW.cond_f rfl ?_ | refine AW.cond_dec rfl (fun hc => ?_) (fun hc => ?_)) | (with_reducible refine AW.cond rfl (fun hc => ?_) (fun hc => ?_) <;> try simp only [Bool.not_eq_eq_eq_not, Bool.not_true, Bool.not_false, decide_eq_true_eq, decide_eq_false_iff_not] at hc) | (with_reducible first | refine AW.seq ?_ | refine AW.skip ?_ | refine AW.ret ?_ | refine And.intro ?_ ?_) | (with_reducible intro hg; first | simp only [eq_false hg, rsB] | simp only [eq_true hg, rsB]) | (with_reducible refine retQ_drop ?_; simp only [vRes, packRes, vLoad, vPart, lk, cond, Nat.reduceBEq, get_loc, getD_zero, getD_succ, true_and, List.length_cons, List.length_nil, Nat.reduceAdd, Nat.reduceLT, Nat.reduceLeDiff, List.take_succ_cons, List.take_zero, List.drop_succ_cons, List.drop_zero, vvar_2, vzero_2, vknd_2, vsn_2, vvar_3, vzero_3, vknd_3, vsn_3, vvar_4, vzero_4, vknd_4, vsn_4, vsl_27, vkn_27, vvar_27, vzero_27, vsl_46, vkn_46, vvar_46, vzero_46, vvar_51, vzero_51, vbld_51, vvar_90, vzero_90, vfld_51_0]) )
  · refine ⟨_, _, FinOk.drop hB (Pl.ids (by (repeat' (first | exact Pl.v _ | exact Pl.junk | exact Pl.rd rfl _ | exact pl_nil | refine pl_cons ?_ ?_ | refine Pl.agg ?_ | refine Pl.tup ?_ | refine Pl.rp ?_ | refine Pl.fn ?_)); (first | done | fail))), ?_, rfl⟩
    refine v_bool ?_
    simp only [Bool.false_eq_true, false_iff]
    intro h
    have h1 := (h.2.2 y (by omega)).1
    unfold width at h1
    omega
  · refine AW.loop (fun x : Nat => (⟨72, [(0, .rp [.rd (.sli .i64) (m)] 0), (3, .v (.int .i64 ((y : Int)))), (4, .v (.int .i64 ((x : Int))))], H, []⟩ : St)) (fun x => x ≤ (m.getD y []).length ∧ ∀ q, q < x → 0 ≤ (m.getD y []).getD q 0 ∧ (m.getD y []).getD q 0 ≤ 9) (fun x => (m.getD y []).length - x) 0 ⟨Nat.zero_le _, fun j h => absurd h (by omega)⟩ (Weak.slots (by repeat' first | exact trivial | exact ⟨rfl, trivial⟩ | refine ⟨rfl, ?_⟩)) ?_
    intro x ⟨hx, hX⟩
    repeat' (first | (with_reducible first | refine AW.sreg envOk fun K hK => ?_ | refine AW.region envOk fun K hK => ?_) | (with_reducible refine AW.d0reg envOk mixed ?_ ?_ fun K hK => ?_; (first | rfl | exact base_len | exact base_len0); kernel_rfl) | (with_reducible refine AW.d0 envOk mixed ?_ ?_ fun K hK => ?_; (first | rfl | exact base_len | exact base_len0); kernel_rfl) | (with_reducible first | refine vcD_nil ?_ | refine vcL_nil ?_) | (with_reducible (first | refine vcD_cons fun K' hK' => ?_ | refine vcL_cons fun K' hK' => ?_); simp only [isC, Bool.false_or, Bool.or_true, ↓reduceDIte, List.take_length, Nat.le_refl, List.drop_zero, vGuard, undef, Bool.not_eq_eq_eq_not, dstOk, vcOp, vcF, isPure, putS, vcCall, St.ev, St.put, lk, AVal.ofVal, initS, Nat.reduceLT, true_and, and_true, vBin, vUn, vPick, vPart, vLoad, vIdxA, vFldA, vLen, vNil, AVal.flat, AVal.cell, cellsOk, setRange, ETy.enc, ETy.dec, ETy.sz, ETy.d, cond, Nat.reduceBEq, Nat.reduceAdd, Int.toNat_natCast, List.length_set, List.length_append, List.length_replicate, List.length_take, Nat.reduceSub, Nat.reduceEqDiff, get_loc, setBox_loc, next_eq, List.length_cons, List.length_nil, List.map_cons, List.map_nil, List.append_nil, List.nil_append, List.cons_append, List.set_cons_zero, List.set_cons_succ, getD_zero, getD_succ, List.getElem?_cons_succ, List.getElem?_cons_zero, List.take_succ_cons, List.take_zero, List.drop_succ_cons, List.all_cons, List.all_nil, Bool.and_true, Bool.true_and, Option.bind_some, Option.map_some, Option.map_none, decide_eq_true_eq, decide_eq_false_iff_not, ne_eq, Bool.not_eq_true, Bool.not_eq_false, Decidable.not_not, not_true_eq_false, not_false_eq_true, forall_const, false_implies, Bool.true_eq_false, Bool.false_eq_true, reduceCtorEq, decide_true, decide_false, Bool.not_true, Bool.not_false, if_true, if_false, Nat.zero_add, Nat.lt_irrefl, Value.oneCell', gt_iff_lt, Nat.reduceLeDiff, Nat.lt_add_one, vvar_2, vzero_2, vknd_2, vsn_2, vvar_3, vzero_3, vknd_3, vsn_3, vvar_4, vzero_4, vknd_4, vsn_4, vsl_27, vkn_27, vvar_27, vzero_27, vsl_46, vkn_46, vvar_46, vzero_46, vvar_51, vzero_51, vbld_51, vvar_90, vzero_90, vfld_51_0, Int.toNat_zero, Int.reduceToNat]; try simp (disch := omega) only [wrap64]) | (with_reducible refine hK' _ ?_; clear hK' K') | (with_reducible refine hK _ ?_; clear hK K) | (with_reducible first | refine vcC_pure (in53_ac _ _ _ _) ?_ | refine vCall_pure (in53_ac _ _ _ _) ?_ | refine And.intro (And.intro rfl rfl) ?_ | refine And.intro (by omega) ?_) | (with_reducible refine And.intro (fun hg => ?_) (fun hg => ?_) <;> first | simp only [eq_false hg, rsB] | simp only [eq_true hg, rsB] | simp only [hg, rsB]) | (with_reducible first | refine And.intro rfl (And.intro rfl rfl) | refine thenQ_n ?_ | refine thenQ_exit ?_ | refine thenQ_ret ?_ | refine midQ_ret ?_ | refine midQ_exit ?_ | refine blockQ_same ?_ | refine blockQ_ne (by decide) ?_ | refine blockQ_ret ?_ | refine blockQ_n ?_ | refine AW.exit ?_ | refine AW.block ?_ | refine AW.cond_t rfl ?_ | refine AW.cond_f rfl ?_ | refine AW.cond_dec rfl (fun hc => ?_) (fun hc => ?_)) | (with_reducible refine AW.cond rfl (fun hc => ?_) (fun hc => ?_) <;> try simp only [Bool.not_eq_eq_eq_not, Bool.not_true, Bool.not_false, decide_eq_true_eq, decide_eq_false_iff_not] at hc) | (with_reducible first | refine AW.seq ?_ | refine AW.skip ?_ | refine AW.ret ?_ | refine And.intro ?_ ?_) | (with_reducible intro hg; first | simp only [eq_false hg, rsB] | simp only [eq_true hg, rsB]) | (with_reducible refine retQ_drop ?_; simp only [vRes, packRes, vLoad, vPart, lk, cond, Nat.reduceBEq, get_loc, getD_zero, getD_succ, true_and, List.length_cons, List.length_nil, Nat.reduceAdd, Nat.reduceLT, Nat.reduceLeDiff, List.take_succ_cons, List.take_zero, List.drop_succ_cons, List.drop_zero, vvar_2, vzero_2, vknd_2, vsn_2, vvar_3, vzero_3, vknd_3, vsn_3, vvar_4, vzero_4, vknd_4, vsn_4, vsl_27, vkn_27, vvar_27, vzero_27, vsl_46, vkn_46, vvar_46, vzero_46, vvar_51, vzero_51, vbld_51, vvar_90, vzero_90, vfld_51_0]) )
    · refine ⟨_, _, FinOk.drop hB (Pl.ids (by (repeat' (first | exact Pl.v _ | exact Pl.junk | exact Pl.rd rfl _ | exact pl_nil | refine pl_cons ?_ ?_ | refine Pl.agg ?_ | refine Pl.tup ?_ | refine Pl.rp ?_ | refine Pl.fn ?_)); (first | done | fail))), ?_, rfl⟩
      refine v_bool ?_
      simp only [Bool.false_eq_true, false_iff]
      intro h
      have h1 := (h.2.2 y (by omega)).2 x (by omega)
      exact absurd h1 (by assumption)
    · refine ⟨x + 1, ⟨by omega, fun q hq => ?_⟩, by omega, (Weak.slots (by repeat' first | exact trivial | exact ⟨rfl, trivial⟩ | refine ⟨rfl, ?_⟩))⟩
      by_cases e : q = x
      · subst e; assumption
      · exact hX q (by omega)
    · refine ⟨y + 1, ⟨by omega, fun j hj => ?_⟩, by omega, (Weak.slots (by repeat' first | exact trivial | exact ⟨rfl, trivial⟩ | refine ⟨rfl, ?_⟩))⟩
      by_cases e : j = y
      · subst e
        refine ⟨by unfold width; omega, fun q hq => hX q (by omega)⟩
      · exact hY j (by omega)
  · refine ⟨_, _, FinOk.drop hB (Pl.ids (by (repeat' (first | exact Pl.v _ | exact Pl.junk | exact Pl.rd rfl _ | exact pl_nil | refine pl_cons ?_ ?_ | refine Pl.agg ?_ | refine Pl.tup ?_ | refine Pl.rp ?_ | refine Pl.fn ?_)); (first | done | fail))), ?_, rfl⟩
    refine v_bool ?_
    simp only [true_iff]
    exact ⟨by omega, by unfold width; omega, fun j hj => hY j (by omega)⟩
/-- All prices of a row are prices. -/
def RowG (xs : List Int) : Prop := ∀ x, x < xs.length → 0 ≤ xs.getD x 0 ∧ xs.getD x 0 ≤ 9
instance (xs : List Int) : Decidable (RowG xs) := by unfold RowG; exact inferInstance
theorem not98_ac (n : Int) (H : List ABox) : AC Tryd.prog 98 [.v (.int .i64 (n))] H (fun r H' => r = .v (.bool (!decide (0 ≤ n ∧ n ≤ 9))) ∧ H' = H) := by
  refine AC.enter envOk Tryd.func98 rfl (by decide) Tryd.ntmps98 Tryd.results98 (by simp) fun hB => ?_
  repeat' (first | (with_reducible first | refine AW.sreg envOk fun K hK => ?_ | refine AW.region envOk fun K hK => ?_ | refine vcL_nil ?_) | (with_reducible (first | refine vcL_cons fun K' hK' => ?_); simp only [isC, Bool.false_or, Bool.or_true, ↓reduceDIte, List.take_length, Nat.le_refl, List.drop_zero, vGuard, undef, Bool.not_eq_eq_eq_not, dstOk, vcOp, vcF, isPure, putS, vcCall, St.ev, St.put, lk, AVal.ofVal, initS, Nat.reduceLT, true_and, and_true, vUn, vPart, vLoad, AVal.flat, AVal.cell, cellsOk, setRange, ETy.enc, ETy.dec, ETy.sz, ETy.d, cond, Nat.reduceBEq, Nat.reduceAdd, Int.toNat_natCast, List.length_set, List.length_append, List.length_replicate, List.length_take, Nat.reduceSub, Nat.reduceEqDiff, get_loc, setBox_loc, next_eq, List.length_cons, List.length_nil, List.map_cons, List.map_nil, List.append_nil, List.nil_append, List.cons_append, List.set_cons_zero, List.set_cons_succ, getD_zero, getD_succ, List.getElem?_cons_succ, List.getElem?_cons_zero, List.take_succ_cons, List.take_zero, List.drop_succ_cons, List.all_cons, List.all_nil, Bool.and_true, Bool.true_and, Option.bind_some, Option.map_some, Option.map_none, decide_eq_true_eq, decide_eq_false_iff_not, ne_eq, Bool.not_eq_true, Bool.not_eq_false, Decidable.not_not, not_true_eq_false, not_false_eq_true, forall_const, false_implies, Bool.true_eq_false, Bool.false_eq_true, reduceCtorEq, decide_true, decide_false, Bool.not_true, Bool.not_false, if_true, if_false, Nat.zero_add, Nat.lt_irrefl, Value.oneCell', gt_iff_lt, Nat.reduceLeDiff, Nat.lt_add_one, vvar_2, vzero_2, vknd_2, vsn_2, vvar_4, vzero_4, vknd_4, vsn_4]; try simp (disch := omega) only [wrap64]) | (with_reducible refine hK' _ ?_; clear hK' K') | (with_reducible refine hK _ ?_; clear hK K) | (with_reducible first | refine vCall_pure (in51_ac _ _ _ _) ?_ | refine And.intro (And.intro rfl rfl) ?_ | refine And.intro (by omega) ?_) | (with_reducible refine And.intro (fun hg => ?_) (fun hg => ?_) <;> first | simp only [eq_false hg, rsB] | simp only [eq_true hg, rsB] | simp only [hg, rsB]) | (with_reducible first | refine And.intro rfl (And.intro rfl rfl) | refine thenQ_n ?_ | refine thenQ_exit ?_ | refine thenQ_ret ?_ | refine midQ_ret ?_ | refine midQ_exit ?_ | refine blockQ_same ?_ | refine blockQ_ne (by decide) ?_ | refine blockQ_ret ?_ | refine blockQ_n ?_ | refine AW.exit ?_ | refine AW.block ?_ | refine AW.cond_t rfl ?_ | refine AW.cond_f rfl ?_ | refine AW.cond_dec rfl (fun hc => ?_) (fun hc => ?_)) | (with_reducible refine AW.cond rfl (fun hc => ?_) (fun hc => ?_) <;> try simp only [Bool.not_eq_eq_eq_not, Bool.not_true, Bool.not_false, decide_eq_true_eq, decide_eq_false_iff_not] at hc) | (with_reducible first | refine AW.seq ?_ | refine AW.skip ?_ | refine AW.ret ?_ | refine And.intro ?_ ?_) | (with_reducible intro hg; first | simp only [eq_false hg, rsB] | simp only [eq_true hg, rsB]) | (with_reducible refine retQ_drop ?_; simp only [vRes, packRes, vLoad, vPart, lk, cond, Nat.reduceBEq, get_loc, getD_zero, getD_succ, true_and, List.length_cons, List.length_nil, Nat.reduceAdd, Nat.reduceLT, Nat.reduceLeDiff, List.take_succ_cons, List.take_zero, List.drop_succ_cons, List.drop_zero, vvar_2, vzero_2, vknd_2, vsn_2, vvar_4, vzero_4, vknd_4, vsn_4]) )
  exact ⟨_, _, FinOk.drop hB (Pl.ids (by (repeat' (first | exact Pl.v _ | exact Pl.junk | exact Pl.rd rfl _ | exact pl_nil | refine pl_cons ?_ ?_ | refine Pl.agg ?_ | refine Pl.tup ?_ | refine Pl.rp ?_ | refine Pl.fn ?_)); (first | done | fail))), rfl, rfl⟩
theorem idx91_ac (xs : List Int) (hx : xs.length ≤ 1000000000) (H : List ABox) : AC Tryd.prog 91 [.rd (.int .i64) (xs), .fn 98 []] H (fun r H' => ∃ n : Int, (0 ≤ n ↔ ¬ RowG xs) ∧ r = .v (.int .i64 (n)) ∧ H' = H) := by
  refine AC.enter envOk Tryd.func91 rfl (by decide) Tryd.ntmps91 Tryd.results91 (by simp) fun hB => ?_
  repeat' (first | (with_reducible first | refine AW.sreg envOk fun K hK => ?_ | refine AW.region envOk fun K hK => ?_ | refine vcL_nil ?_) | (with_reducible (first | refine vcL_cons fun K' hK' => ?_); simp only [isC, Bool.false_or, Bool.or_true, ↓reduceDIte, List.take_length, Nat.le_refl, List.drop_zero, vGuard, undef, Bool.not_eq_eq_eq_not, dstOk, vcOp, vcF, isPure, putS, vcCall, St.ev, St.put, lk, AVal.ofVal, initS, Nat.reduceLT, true_and, and_true, vBin, vPart, vLoad, vIdxA, vLen, AVal.flat, AVal.cell, cellsOk, setRange, ETy.enc, ETy.dec, ETy.sz, ETy.d, cond, Nat.reduceBEq, Nat.reduceAdd, Int.toNat_natCast, List.length_set, List.length_append, List.length_replicate, List.length_take, Nat.reduceSub, Nat.reduceEqDiff, get_loc, setBox_loc, next_eq, List.length_cons, List.length_nil, List.map_cons, List.map_nil, List.append_nil, List.nil_append, List.cons_append, List.set_cons_zero, List.set_cons_succ, getD_zero, getD_succ, List.getElem?_cons_succ, List.getElem?_cons_zero, List.take_succ_cons, List.take_zero, List.drop_succ_cons, List.all_cons, List.all_nil, Bool.and_true, Bool.true_and, Option.bind_some, Option.map_some, Option.map_none, decide_eq_true_eq, decide_eq_false_iff_not, ne_eq, Bool.not_eq_true, Bool.not_eq_false, Decidable.not_not, not_true_eq_false, not_false_eq_true, forall_const, false_implies, Bool.true_eq_false, Bool.false_eq_true, reduceCtorEq, decide_true, decide_false, Bool.not_true, Bool.not_false, if_true, if_false, Nat.zero_add, Nat.lt_irrefl, Value.oneCell', gt_iff_lt, Nat.reduceLeDiff, Nat.lt_add_one, vvar_2, vzero_2, vknd_2, vsn_2, vvar_3, vzero_3, vknd_3, vsn_3, vvar_4, vzero_4, vknd_4, vsn_4, vvar_23, vzero_23, vsl_27, vkn_27, vvar_27, vzero_27]; try simp (disch := omega) only [wrap64]) | (with_reducible refine hK' _ ?_; clear hK' K') | (with_reducible refine hK _ ?_; clear hK K) | (with_reducible first | refine And.intro (And.intro rfl rfl) ?_ | refine And.intro (by omega) ?_) | (with_reducible refine And.intro (fun hg => ?_) (fun hg => ?_) <;> first | simp only [eq_false hg, rsB] | simp only [eq_true hg, rsB] | simp only [hg, rsB]) | (with_reducible first | refine And.intro rfl (And.intro rfl rfl) | refine thenQ_n ?_ | refine thenQ_exit ?_ | refine thenQ_ret ?_ | refine midQ_ret ?_ | refine midQ_exit ?_ | refine blockQ_same ?_ | refine blockQ_ne (by decide) ?_ | refine blockQ_ret ?_ | refine blockQ_n ?_ | refine AW.exit ?_ | refine AW.block ?_ | refine AW.cond_t rfl ?_ | refine AW.cond_f rfl ?_ | refine AW.cond_dec rfl (fun hc => ?_) (fun hc => ?_)) | (with_reducible refine AW.cond rfl (fun hc => ?_) (fun hc => ?_) <;> try simp only [Bool.not_eq_eq_eq_not, Bool.not_true, Bool.not_false, decide_eq_true_eq, decide_eq_false_iff_not] at hc) | (with_reducible first | refine AW.seq ?_ | refine AW.skip ?_ | refine AW.ret ?_ | refine And.intro ?_ ?_) | (with_reducible intro hg; first | simp only [eq_false hg, rsB] | simp only [eq_true hg, rsB]) | (with_reducible refine retQ_drop ?_; simp only [vRes, packRes, vLoad, vPart, lk, cond, Nat.reduceBEq, get_loc, getD_zero, getD_succ, true_and, List.length_cons, List.length_nil, Nat.reduceAdd, Nat.reduceLT, Nat.reduceLeDiff, List.take_succ_cons, List.take_zero, List.drop_succ_cons, List.drop_zero, vvar_2, vzero_2, vknd_2, vsn_2, vvar_3, vzero_3, vknd_3, vsn_3, vvar_4, vzero_4, vknd_4, vsn_4, vvar_23, vzero_23, vsl_27, vkn_27, vvar_27, vzero_27]) )
  refine AW.loop (fun i : Nat => (⟨19, [(0, .rd (.int .i64) (xs)), (1, .fn 98 []), (7, .v (.int .i64 ((xs.length : Int)))), (8, .v (.int .i64 ((i : Int))))], H, []⟩ : St)) (fun i => i ≤ xs.length ∧ ∀ j, j < i → 0 ≤ xs.getD j 0 ∧ xs.getD j 0 ≤ 9) (fun i => xs.length - i) 0 ⟨Nat.zero_le _, fun j h => absurd h (by omega)⟩ (Weak.slots (by repeat' first | exact trivial | exact ⟨rfl, trivial⟩ | refine ⟨rfl, ?_⟩)) ?_
  intro i ⟨hi, hI⟩
  repeat' (first | (with_reducible first | refine AW.sreg envOk fun K hK => ?_ | refine AW.region envOk fun K hK => ?_ | refine vcL_nil ?_) | (with_reducible (first | refine vcL_cons fun K' hK' => ?_); simp only [isC, Bool.false_or, Bool.or_true, ↓reduceDIte, List.take_length, Nat.le_refl, List.drop_zero, vGuard, undef, Bool.not_eq_eq_eq_not, dstOk, vcOp, vcF, isPure, putS, vcCall, St.ev, St.put, lk, AVal.ofVal, initS, Nat.reduceLT, true_and, and_true, vBin, vPart, vLoad, vIdxA, vLen, AVal.flat, AVal.cell, cellsOk, setRange, ETy.enc, ETy.dec, ETy.sz, ETy.d, cond, Nat.reduceBEq, Nat.reduceAdd, Int.toNat_natCast, List.length_set, List.length_append, List.length_replicate, List.length_take, Nat.reduceSub, Nat.reduceEqDiff, get_loc, setBox_loc, next_eq, List.length_cons, List.length_nil, List.map_cons, List.map_nil, List.append_nil, List.nil_append, List.cons_append, List.set_cons_zero, List.set_cons_succ, getD_zero, getD_succ, List.getElem?_cons_succ, List.getElem?_cons_zero, List.take_succ_cons, List.take_zero, List.drop_succ_cons, List.all_cons, List.all_nil, Bool.and_true, Bool.true_and, Option.bind_some, Option.map_some, Option.map_none, decide_eq_true_eq, decide_eq_false_iff_not, ne_eq, Bool.not_eq_true, Bool.not_eq_false, Decidable.not_not, not_true_eq_false, not_false_eq_true, forall_const, false_implies, Bool.true_eq_false, Bool.false_eq_true, reduceCtorEq, decide_true, decide_false, Bool.not_true, Bool.not_false, if_true, if_false, Nat.zero_add, Nat.lt_irrefl, Value.oneCell', gt_iff_lt, Nat.reduceLeDiff, Nat.lt_add_one, vvar_2, vzero_2, vknd_2, vsn_2, vvar_3, vzero_3, vknd_3, vsn_3, vvar_4, vzero_4, vknd_4, vsn_4, vvar_23, vzero_23, vsl_27, vkn_27, vvar_27, vzero_27]; try simp (disch := omega) only [wrap64]) | (with_reducible refine hK' _ ?_; clear hK' K') | (with_reducible refine hK _ ?_; clear hK K) | (with_reducible first | refine vCall_pure (not98_ac _ _) ?_ | refine And.intro (And.intro rfl rfl) ?_ | refine And.intro (by omega) ?_) | (with_reducible refine And.intro (fun hg => ?_) (fun hg => ?_) <;> first | simp only [eq_false hg, rsB] | simp only [eq_true hg, rsB] | simp only [hg, rsB]) | (with_reducible first | refine And.intro rfl (And.intro rfl rfl) | refine thenQ_n ?_ | refine thenQ_exit ?_ | refine thenQ_ret ?_ | refine midQ_ret ?_ | refine midQ_exit ?_ | refine blockQ_same ?_ | refine blockQ_ne (by decide) ?_ | refine blockQ_ret ?_ | refine blockQ_n ?_ | refine AW.exit ?_ | refine AW.block ?_ | refine AW.cond_t rfl ?_ | refine AW.cond_f rfl ?_ | refine AW.cond_dec rfl (fun hc => ?_) (fun hc => ?_)) | (with_reducible refine AW.cond rfl (fun hc => ?_) (fun hc => ?_) <;> try simp only [Bool.not_eq_eq_eq_not, Bool.not_true, Bool.not_false, decide_eq_true_eq, decide_eq_false_iff_not] at hc) | (with_reducible first | refine AW.seq ?_ | refine AW.skip ?_ | refine AW.ret ?_ | refine And.intro ?_ ?_) | (with_reducible intro hg; first | simp only [eq_false hg, rsB] | simp only [eq_true hg, rsB]) | (with_reducible refine retQ_drop ?_; simp only [vRes, packRes, vLoad, vPart, lk, cond, Nat.reduceBEq, get_loc, getD_zero, getD_succ, true_and, List.length_cons, List.length_nil, Nat.reduceAdd, Nat.reduceLT, Nat.reduceLeDiff, List.take_succ_cons, List.take_zero, List.drop_succ_cons, List.drop_zero, vvar_2, vzero_2, vknd_2, vsn_2, vvar_3, vzero_3, vknd_3, vsn_3, vvar_4, vzero_4, vknd_4, vsn_4, vvar_23, vzero_23, vsl_27, vkn_27, vvar_27, vzero_27]) )
  · exact ⟨_, _, FinOk.drop hB (.v _), (i : Int), ⟨fun _ h => absurd (h i (by omega)) (by assumption), fun _ => by omega⟩, rfl, rfl⟩
  · refine ⟨i + 1, ⟨by omega, fun j hj => ?_⟩, by omega, (Weak.slots (by repeat' first | exact trivial | exact ⟨rfl, trivial⟩ | refine ⟨rfl, ?_⟩))⟩
    by_cases e : j = i
    · subst e; assumption
    · exact hI j (by omega)
  · exact ⟨_, _, FinOk.drop hB (.v _), (-1 : Int), ⟨fun h => absurd h (by omega), fun h => absurd (fun j hj => hI j (by omega)) h⟩, rfl, rfl⟩
theorem cont59m_ac (xs : List Int) (hx : xs.length ≤ 1000000000) (H : List ABox) : AC Tryd.prog 59 [.rd (.int .i64) (xs), .fn 98 []] H (fun r H' => r = .v (.bool (!decide (RowG xs))) ∧ H' = H) := by
  refine AC.enter envOk Tryd.func59 rfl (by decide) Tryd.ntmps59 Tryd.results59 (by simp) fun hB => ?_
  repeat' (first | (with_reducible first | refine AW.sreg envOk fun K hK => ?_ | refine AW.region envOk fun K hK => ?_ | refine vcL_nil ?_) | (with_reducible (first | refine vcL_cons fun K' hK' => ?_); simp only [isC, Bool.false_or, Bool.or_true, ↓reduceDIte, List.take_length, Nat.le_refl, List.drop_zero, vGuard, undef, Bool.not_eq_eq_eq_not, dstOk, vcOp, vcF, isPure, putS, vcCall, St.ev, St.put, lk, AVal.ofVal, initS, Nat.reduceLT, true_and, and_true, vBin, vPart, vLoad, AVal.flat, AVal.cell, cellsOk, setRange, ETy.enc, ETy.dec, ETy.sz, ETy.d, cond, Nat.reduceBEq, Nat.reduceAdd, Int.toNat_natCast, List.length_set, List.length_append, List.length_replicate, List.length_take, Nat.reduceSub, Nat.reduceEqDiff, get_loc, setBox_loc, next_eq, List.length_cons, List.length_nil, List.map_cons, List.map_nil, List.append_nil, List.nil_append, List.cons_append, List.set_cons_zero, List.set_cons_succ, getD_zero, getD_succ, List.getElem?_cons_succ, List.getElem?_cons_zero, List.take_succ_cons, List.take_zero, List.drop_succ_cons, List.all_cons, List.all_nil, Bool.and_true, Bool.true_and, Option.bind_some, Option.map_some, Option.map_none, decide_eq_true_eq, decide_eq_false_iff_not, ne_eq, Bool.not_eq_true, Bool.not_eq_false, Decidable.not_not, not_true_eq_false, not_false_eq_true, forall_const, false_implies, Bool.true_eq_false, Bool.false_eq_true, reduceCtorEq, decide_true, decide_false, Bool.not_true, Bool.not_false, if_true, if_false, Nat.zero_add, Nat.lt_irrefl, Value.oneCell', gt_iff_lt, Nat.reduceLeDiff, Nat.lt_add_one, vvar_3, vzero_3, vknd_3, vsn_3, vvar_4, vzero_4, vknd_4, vsn_4, vvar_23, vzero_23, vsl_27, vkn_27, vvar_27, vzero_27]; try simp (disch := omega) only [wrap64]) | (with_reducible refine hK' _ ?_; clear hK' K') | (with_reducible refine hK _ ?_; clear hK K) | (with_reducible first | refine vCall_ex (idx91_ac xs hx _) (fun n hn => ?_) | refine And.intro (And.intro rfl rfl) ?_ | refine And.intro (by omega) ?_) | (with_reducible refine And.intro (fun hg => ?_) (fun hg => ?_) <;> first | simp only [eq_false hg, rsB] | simp only [eq_true hg, rsB] | simp only [hg, rsB]) | (with_reducible first | refine And.intro rfl (And.intro rfl rfl) | refine thenQ_n ?_ | refine thenQ_exit ?_ | refine thenQ_ret ?_ | refine midQ_ret ?_ | refine midQ_exit ?_ | refine blockQ_same ?_ | refine blockQ_ne (by decide) ?_ | refine blockQ_ret ?_ | refine blockQ_n ?_ | refine AW.exit ?_ | refine AW.block ?_ | refine AW.cond_t rfl ?_ | refine AW.cond_f rfl ?_ | refine AW.cond_dec rfl (fun hc => ?_) (fun hc => ?_)) | (with_reducible refine AW.cond rfl (fun hc => ?_) (fun hc => ?_) <;> try simp only [Bool.not_eq_eq_eq_not, Bool.not_true, Bool.not_false, decide_eq_true_eq, decide_eq_false_iff_not] at hc) | (with_reducible first | refine AW.seq ?_ | refine AW.skip ?_ | refine AW.ret ?_ | refine And.intro ?_ ?_) | (with_reducible intro hg; first | simp only [eq_false hg, rsB] | simp only [eq_true hg, rsB]) | (with_reducible refine retQ_drop ?_; simp only [vRes, packRes, vLoad, vPart, lk, cond, Nat.reduceBEq, get_loc, getD_zero, getD_succ, true_and, List.length_cons, List.length_nil, Nat.reduceAdd, Nat.reduceLT, Nat.reduceLeDiff, List.take_succ_cons, List.take_zero, List.drop_succ_cons, List.drop_zero, vvar_3, vzero_3, vknd_3, vsn_3, vvar_4, vzero_4, vknd_4, vsn_4, vvar_23, vzero_23, vsl_27, vkn_27, vvar_27, vzero_27]) )
  refine ⟨_, _, FinOk.drop hB (Pl.ids (by (repeat' (first | exact Pl.v _ | exact Pl.junk | exact Pl.rd rfl _ | exact pl_nil | refine pl_cons ?_ ?_ | refine Pl.agg ?_ | refine Pl.tup ?_ | refine Pl.rp ?_ | refine Pl.fn ?_)); (first | done | fail))), ?_, rfl⟩
  by_cases h : RowG xs
  · rw [decide_eq_true h, decide_eq_false (fun h' => hn.1 h' h)]; rfl
  · rw [decide_eq_false h, decide_eq_true (hn.2 h)]; rfl
theorem Fits.of {m : Mz} (h : m.length ≤ maxLen) (hw : ∀ y ∈ m, (ETy.sli .i64).wf y) : Fits 9223372036854775807 m := ⟨h, fun i => by
  by_cases hi : i < m.length
  · have hmem : m.getD i [] ∈ m := by
      simp only [List.getD, List.getElem?_eq_getElem hi, Option.getD_some]; exact List.getElem_mem hi
    exact (hw _ hmem).1
  · rw [getD_none hi]; simp⟩
end Go.Proofs.YtlgagjboijkpgaaDoor
end
section
set_option linter.unusedSimpArgs false
set_option linter.unusedVariables false
set_option maxHeartbeats 1000000
namespace Go.Proofs.YtlgagjboijkpgaaDoor
open Go.Lib Go.Eng
def HasMax (H : List ABox) : Prop := ∃ (k : Nat) (M : Int) (cs : Array Value) (T : TypeId) (fr : Nat × Nat), cs[0]? = some (Value.int .i64 M) ∧ H[k]? = some (ABox.tab 3 (.cells cs T fr))
theorem HasMax.app {H : List ABox} (h : HasMax H) (l : List ABox) : HasMax (H ++ l) := by
  obtain ⟨k, M, cs, T, fr, h0, h⟩ := h
  exact ⟨k, M, cs, T, fr, h0, getT h⟩
theorem split_ac (s : ByteArray) (hs : s.size ≤ 1048576) (m : UInt8) {H : List ABox} (hm : HasMax H) : AC Tryd.prog 79 [.v (.string (s)), .v (.string (⟨#[m]⟩))] H (fun r H' => r = .sl 1 H.length 0 (ptsS m s).length ∧ H' = H ++ [.row false .str (ptsS m s)]) := by
  obtain ⟨k, M, cs, T, fr, h0, h⟩ := hm
  exact split79_ac s hs m h0 h
theorem RdPost.some_ {o : Option (List Int)} {xs : List Int} (h : o = some xs) {H : List ABox} {r : AVal} {H' : List ABox} (hp : RdPost o H r H') : r = .tup [.sl 1 H.length 0 xs.length, .v (.bool (true))] ∧ H' = H ++ [.row false (.int .i64) xs] := by
  rcases hp with ⟨ys, h1, h2, h3⟩ | ⟨h1, _, _⟩
  · rw [h] at h1; cases h1; exact ⟨h2, h3⟩
  · rw [h] at h1; cases h1
theorem RdPost.none_ {o : Option (List Int)} (h : o = none) {H : List ABox} {r : AVal} {H' : List ABox} (hp : RdPost o H r H') : r = .tup [.v (.slice none 0 0), .v (.bool (false))] ∧ H' = H := by
  rcases hp with ⟨ys, h1, h2, h3⟩ | ⟨_, h2, h3⟩
  · rw [h] at h1; cases h1
  · exact ⟨h2, h3⟩
end Go.Proofs.YtlgagjboijkpgaaDoor
end
section
set_option linter.unusedSimpArgs false
set_option linter.unusedVariables false
set_option maxHeartbeats 2000000
namespace Go.Proofs.YtlgagjboijkpgaaDoor
open Go.Eng Go.Lib
theorem take_snocL {m : Mz} {i : Nat} (h : i < m.length) : m.take (i + 1) = m.take i ++ [m.getD i []] := by
  rw [List.take_add_one, List.getElem?_eq_getElem h]; simp [List.getD, h]
theorem flat_snocL {m : Mz} {i : Nat} (h : i < m.length) : (m.take (i + 1)).flatten.length = (m.take i).flatten.length + (m.getD i []).length := by
  rw [take_snocL h, List.flatten_append]; simp
theorem get_base {N : Nat} {s : List (Nat × AVal)} {H l : List ABox} {kc : Nat} {X : ABox} (h : H[kc]? = some X) : St.get ⟨N, s, H, l⟩ kc = X := by
  unfold St.get
  simp only [List.getD]
  rw [List.getElem?_append_left (List.getElem?_eq_some_iff.1 h).1, h]; rfl
/-- Lists of numbers, marked from k on. -/
def marksM : Int → Mz → Mz
  | _, [] => []
  | k, x :: r => marks k x.length :: marksM (k + x.length) r
theorem marksM_len : ∀ (k : Int) (xs : Mz), (marksM k xs).length = xs.length
  | _, [] => rfl
  | k, x :: r => by
    show (marksM (k + x.length) r).length + 1 = r.length + 1
    rw [marksM_len _ r]
theorem marksM_snoc : ∀ (k : Int) (xs : Mz) (x : List Int), marksM k (xs ++ [x]) = marksM k xs ++ [marks (k + (xs.flatten.length : Nat)) x.length]
  | k, [], x => by simp [marksM]
  | k, y :: r, x => by
    show marks k y.length :: marksM (k + y.length) (r ++ [x]) = marks k y.length :: (marksM (k + y.length) r ++ _)
    rw [marksM_snoc (k + y.length) r x, show k + (y.length : Int) + (r.flatten.length : Nat) = k + (((y :: r).flatten.length : Nat) : Int) by simp; omega]
theorem marksM_get {k : Int} {xs : Mz} {i : Nat} (h : i < xs.length) : (marksM k xs).getD i [] = marks (k + ((xs.take i).flatten.length : Nat)) (xs.getD i []).length := by
  induction xs generalizing k i with
  | nil => simp at h
  | cons x r ih =>
    cases i with
    | zero => show marks k x.length = _; simp
    | succ i =>
      show (marksM (k + x.length) r).getD i [] = marks (k + ((((x :: r).take (i + 1)).flatten.length : Nat) : Int)) (r.getD i []).length
      rw [ih (by simpa using h), show k + (x.length : Int) + ((r.take i).flatten.length : Nat) = k + ((((x :: r).take (i + 1)).flatten.length : Nat) : Int) by simp; omega]
/-- The first i lists marked. -/
def mkTo (k : Int) (xs : Mz) (i : Nat) : Mz := marksM k (xs.take i) ++ xs.drop i
theorem mkTo_zero (k : Int) (xs : Mz) : mkTo k xs 0 = xs := by simp [mkTo, marksM]
theorem mkTo_all (k : Int) (xs : Mz) : mkTo k xs xs.length = marksM k xs := by simp [mkTo]
theorem mkTo_len {k : Int} {xs : Mz} {i : Nat} (h : i ≤ xs.length) : (mkTo k xs i).length = xs.length := by
  unfold mkTo; rw [List.length_append, marksM_len]; simp; omega
theorem mkTo_get {k : Int} {xs : Mz} {i : Nat} (h : i < xs.length) : (mkTo k xs i).getD i [] = xs.getD i [] := by
  have hl : (marksM k (xs.take i)).length = i := by rw [marksM_len]; simp; omega
  unfold mkTo
  simp only [List.getD]
  rw [List.getElem?_append_right (by omega), hl, Nat.sub_self, List.getElem?_drop, Nat.add_zero]
theorem mkTo_set {k : Int} {xs : Mz} {i : Nat} (h : i < xs.length) : (mkTo k xs i).set i (marks (k + ((xs.take i).flatten.length : Nat)) (xs.getD i []).length) = mkTo k xs (i + 1) := by
  have hl : (marksM k (xs.take i)).length = i := by rw [marksM_len]; simp; omega
  unfold mkTo
  rw [take_snocL h, marksM_snoc, List.set_append, if_neg (by omega), hl, Nat.sub_self, List.drop_eq_getElem_cons h, List.append_assoc]
  rfl
theorem tot_le {xs : Mz} (i : Nat) : (xs.take i).flatten.length ≤ xs.flatten.length := by
  have h : xs.flatten = (xs.take i).flatten ++ (xs.drop i).flatten := by rw [← List.flatten_append, List.take_append_drop]
  rw [h, List.length_append]; omega
theorem tot_step {xs : Mz} {i : Nat} (h : i < xs.length) : (xs.take (i + 1)).flatten.length = (xs.take i).flatten.length + (xs.getD i []).length := flat_snocL h
theorem mark28r_ac (ys : Mz) {i : Nat} (hi : i < ys.length) (k : Int) (hx : (ys.getD i []).length ≤ 1000000000) (hk : 0 ≤ k ∧ k ≤ 1000000000) (H pre post : List ABox) :
    AC Tryd.prog 28 [.sl 1 (H.length + pre.length + i) 0 (ys.getD i []).length, .v (.int .i64 (k))] ((H ++ (pre ++ (Eng.rowsB ys ++ post))) ++ []) (fun r H' => r = .v (.int .i64 (k + (ys.getD i []).length)) ∧ H' = (H ++ (pre ++ (Eng.rowsB (ys.set i (marks k (ys.getD i []).length)) ++ post))) ++ []) := by
  have h := mark28o_ac (ys.getD i []) k hx hk (pre ++ (Eng.rowsB ys ++ post)) (pre.length + i) (by
    rw [List.getElem?_append_right (by omega), Nat.add_sub_cancel_left, List.getElem?_append_left (by rw [rowsB_len]; exact hi), rowsB_get hi]) H []
  rw [rows_set (H := H) hi, ← Nat.add_assoc] at h
  exact h
theorem mark36_ac (xs : Mz) (k : Int) (hx : xs.length ≤ 2000000) (ht : xs.flatten.length ≤ 10000000) (hk : 0 ≤ k ∧ k ≤ 100000000) (H pre post : List ABox) :
    AC Tryd.prog 80 [.sl 1 (H.length + (pre.length + xs.length)) 0 xs.length, .v (.int .i64 (k))] (H ++ (pre ++ (Eng.rowsB xs ++ (.row false (.own .i64) (refs (H.length + pre.length) xs) :: post))))
      (fun r H' => r = .v (.int .i64 (k + (xs.flatten.length : Nat))) ∧ H' = H ++ (pre ++ (Eng.rowsB (marksM k xs) ++ (.row false (.own .i64) (refs (H.length + pre.length) xs) :: post)))) := by
  obtain ⟨R, hR⟩ : ∃ R, (ABox.row false (.own .i64) (refs (H.length + pre.length) xs) :: post) = R := ⟨_, rfl⟩
  have hrl := refs_len (H.length + pre.length) xs
  have hnx : ∀ ys : Mz, ys.length = xs.length → (H ++ (pre ++ (Eng.rowsB ys ++ R))).length = (H ++ (pre ++ (Eng.rowsB xs ++ R))).length := fun ys h => by simp [rowsB_len, h]
  rw [hR]
  refine AC.enter envOk2 Tryd.func80 rfl (by decide) Tryd.ntmps80 Tryd.results80 (by simp) fun hB => ?_
  repeat' (first | (with_reducible first | refine AW.sreg envOk2 fun K hK => ?_ | refine AW.region envOk2 fun K hK => ?_ | refine vcL_nil ?_) | (with_reducible (first | refine vcL_cons fun K' hK' => ?_); simp only [isC, Bool.false_or, Bool.or_true, ↓reduceDIte, List.take_length, Nat.le_refl, List.drop_zero, vGuard, undef, Bool.not_eq_eq_eq_not, dstOk, vcOp, vcF, isPure, putS, vcCall, St.ev, St.put, lk, AVal.ofVal, initS, Nat.reduceLT, true_and, and_true, vBin, vPart, vLoad, vIdxA, vLen, AVal.flat, AVal.cell, cellsOk, setRange, ETy.enc, ETy.dec, ETy.sz, ETy.d, cond, Nat.reduceBEq, Nat.reduceAdd, Int.toNat_natCast, List.length_set, List.length_append, List.length_replicate, List.length_take, Nat.reduceSub, Nat.reduceEqDiff, get_loc, setBox_loc, next_eq, List.length_cons, List.length_nil, List.map_cons, List.map_nil, List.append_nil, List.nil_append, List.cons_append, List.set_cons_zero, List.set_cons_succ, getD_zero, getD_succ, List.getElem?_cons_succ, List.getElem?_cons_zero, List.take_succ_cons, List.take_zero, List.drop_succ_cons, List.all_cons, List.all_nil, Bool.and_true, Bool.true_and, Option.bind_some, Option.map_some, Option.map_none, decide_eq_true_eq, decide_eq_false_iff_not, ne_eq, Bool.not_eq_true, Bool.not_eq_false, Decidable.not_not, not_true_eq_false, not_false_eq_true, forall_const, false_implies, Bool.true_eq_false, Bool.false_eq_true, reduceCtorEq, decide_true, decide_false, Bool.not_true, Bool.not_false, if_true, if_false, Nat.zero_add, Nat.lt_irrefl, Value.oneCell', gt_iff_lt, Nat.reduceLeDiff, Nat.lt_add_one, wvar_3, wzero_3, wknd_3, wsn_3, wvar_4, wzero_4, wknd_4, wsn_4, wsl_27, wkn_27, wvar_27, wzero_27, wsl_46, wkn_46, wvar_46, wzero_46]; try simp (disch := omega) only [wrap64]) | (with_reducible refine hK' _ ?_; clear hK' K') | (with_reducible refine hK _ ?_; clear hK K) | (with_reducible first | refine And.intro (And.intro rfl rfl) ?_ | refine And.intro (by omega) ?_) | (with_reducible refine And.intro (fun hg => ?_) (fun hg => ?_) <;> first | simp only [eq_false hg, rsB] | simp only [eq_true hg, rsB] | simp only [hg, rsB]) | (with_reducible first | refine And.intro rfl (And.intro rfl rfl) | refine thenQ_n ?_ | refine thenQ_exit ?_ | refine thenQ_ret ?_ | refine midQ_ret ?_ | refine midQ_exit ?_ | refine blockQ_same ?_ | refine blockQ_ne (by decide) ?_ | refine blockQ_ret ?_ | refine blockQ_n ?_ | refine AW.exit ?_ | refine AW.block ?_ | refine AW.cond_t rfl ?_ | refine AW.cond_f rfl ?_ | refine AW.cond_dec rfl (fun hc => ?_) (fun hc => ?_)) | (with_reducible refine AW.cond rfl (fun hc => ?_) (fun hc => ?_) <;> try simp only [Bool.not_eq_eq_eq_not, Bool.not_true, Bool.not_false, decide_eq_true_eq, decide_eq_false_iff_not] at hc) | (with_reducible first | refine AW.seq ?_ | refine AW.skip ?_ | refine AW.ret ?_ | refine And.intro ?_ ?_) | (with_reducible intro hg; first | simp only [eq_false hg, rsB] | simp only [eq_true hg, rsB]) | (with_reducible refine retQ_drop ?_; simp only [vRes, packRes, vLoad, vPart, lk, cond, Nat.reduceBEq, get_loc, getD_zero, getD_succ, true_and, List.length_cons, List.length_nil, Nat.reduceAdd, Nat.reduceLT, Nat.reduceLeDiff, List.take_succ_cons, List.take_zero, List.drop_succ_cons, List.drop_zero, wvar_3, wzero_3, wknd_3, wsn_3, wvar_4, wzero_4, wknd_4, wsn_4, wsl_27, wkn_27, wvar_27, wzero_27, wsl_46, wkn_46, wvar_46, wzero_46]) )
  refine AW.loop (fun i : Nat => (⟨19, [(0, .sl 1 (H.length + (pre.length + xs.length)) 0 xs.length), (1, .v (.int .i64 (k + ((xs.take i).flatten.length : Nat)))), (5, .v (.int .i64 ((i : Int))))], H ++ (pre ++ (Eng.rowsB (mkTo k xs i) ++ R)), []⟩ : St)) (fun i => i ≤ xs.length) (fun i => xs.length - i) 0 (Nat.zero_le _) ?_ ?_
  · rw [mkTo_zero, List.take_zero, List.flatten_nil, List.length_nil, Int.natCast_zero, Int.add_zero]
    exact (Weak.slots (by repeat' first | exact trivial | exact ⟨rfl, trivial⟩ | refine ⟨rfl, ?_⟩))
  intro i hi
  have hml := mkTo_len (k := k) hi
  by_cases hin : i < xs.length
  · have hri := refs_get (g := H.length + pre.length) hin
    have hgt := mkTo_get (k := k) hin
    have hst := mkTo_set (k := k) hin
    have htl := tot_le (xs := xs) i
    have hts := tot_step hin
    have htl2 := tot_le (xs := xs) (i + 1)
    have hcall := mark28r_ac (mkTo k xs i) (i := i) (by omega) (k + ((xs.take i).flatten.length : Nat)) (by rw [hgt]; omega) (by omega) H pre R
    rw [hgt, hst] at hcall
    have hown : (H ++ (pre ++ (Eng.rowsB (mkTo k xs i) ++ R)))[H.length + (pre.length + xs.length)]? = some (.row false (.own .i64) (refs (H.length + pre.length) xs)) := by
      rw [← hR, ← hml]; exact lk_own
    obtain ⟨B, hBe⟩ : ∃ B, H ++ (pre ++ (Eng.rowsB (mkTo k xs i) ++ R)) = B := ⟨_, rfl⟩
    obtain ⟨B2, hB2⟩ : ∃ B, H ++ (pre ++ (Eng.rowsB (mkTo k xs (i + 1)) ++ R)) = B := ⟨_, rfl⟩
    have hbl : B2.length = B.length := by rw [← hB2, ← hBe, hnx _ (mkTo_len (by omega)), hnx _ hml]
    rw [hBe] at hown hcall ⊢
    rw [hB2] at hcall
    have hgb : ∀ N s l, St.get ⟨N, s, B, l⟩ (H.length + (pre.length + xs.length)) = .row false (.own .i64) (refs (H.length + pre.length) xs) := fun N s l => get_base hown
    repeat' (first | (with_reducible first | refine AW.sreg envOk2 fun K hK => ?_ | refine AW.region envOk2 fun K hK => ?_ | refine vcL_nil ?_) | (with_reducible (first | refine vcL_cons fun K' hK' => ?_); simp only [isC, Bool.false_or, Bool.or_true, ↓reduceDIte, List.take_length, Nat.le_refl, List.drop_zero, vGuard, undef, Bool.not_eq_eq_eq_not, dstOk, vcOp, vcF, isPure, putS, vcCall, St.ev, St.put, lk, AVal.ofVal, initS, Nat.reduceLT, true_and, and_true, vBin, vPart, vLoad, vIdxA, vLen, AVal.flat, AVal.cell, cellsOk, setRange, ETy.enc, ETy.dec, ETy.sz, ETy.d, cond, Nat.reduceBEq, Nat.reduceAdd, Int.toNat_natCast, List.length_set, List.length_append, List.length_replicate, List.length_take, Nat.reduceSub, Nat.reduceEqDiff, get_loc, setBox_loc, next_eq, List.length_cons, List.length_nil, List.map_cons, List.map_nil, List.append_nil, List.nil_append, List.cons_append, List.set_cons_zero, List.set_cons_succ, getD_zero, getD_succ, List.getElem?_cons_succ, List.getElem?_cons_zero, List.take_succ_cons, List.take_zero, List.drop_succ_cons, List.all_cons, List.all_nil, Bool.and_true, Bool.true_and, Option.bind_some, Option.map_some, Option.map_none, decide_eq_true_eq, decide_eq_false_iff_not, ne_eq, Bool.not_eq_true, Bool.not_eq_false, Decidable.not_not, not_true_eq_false, not_false_eq_true, forall_const, false_implies, Bool.true_eq_false, Bool.false_eq_true, reduceCtorEq, decide_true, decide_false, Bool.not_true, Bool.not_false, if_true, if_false, Nat.zero_add, Nat.lt_irrefl, Value.oneCell', gt_iff_lt, Nat.reduceLeDiff, Nat.lt_add_one, wvar_3, wzero_3, wknd_3, wsn_3, wvar_4, wzero_4, wknd_4, wsn_4, wsl_27, wkn_27, wvar_27, wzero_27, wsl_46, wkn_46, wvar_46, wzero_46, hgb, hri, hrl]; try simp (disch := omega) only [wrap64]) | (with_reducible refine hK' _ ?_; clear hK' K') | (with_reducible refine hK _ ?_; clear hK K) | ((with_reducible show vCall _ (AVal.fn 28 _) _ _ _); refine vCall_toB hcall hbl ?_) | (with_reducible first | refine And.intro (And.intro rfl rfl) ?_ | refine And.intro (by omega) ?_) | (with_reducible refine And.intro (fun hg => ?_) (fun hg => ?_) <;> first | simp only [eq_false hg, rsB] | simp only [eq_true hg, rsB] | simp only [hg, rsB]) | (with_reducible first | refine And.intro rfl (And.intro rfl rfl) | refine thenQ_n ?_ | refine thenQ_exit ?_ | refine thenQ_ret ?_ | refine midQ_ret ?_ | refine midQ_exit ?_ | refine blockQ_same ?_ | refine blockQ_ne (by decide) ?_ | refine blockQ_ret ?_ | refine blockQ_n ?_ | refine AW.exit ?_ | refine AW.block ?_ | refine AW.cond_t rfl ?_ | refine AW.cond_f rfl ?_ | refine AW.cond_dec rfl (fun hc => ?_) (fun hc => ?_)) | (with_reducible refine AW.cond rfl (fun hc => ?_) (fun hc => ?_) <;> try simp only [Bool.not_eq_eq_eq_not, Bool.not_true, Bool.not_false, decide_eq_true_eq, decide_eq_false_iff_not] at hc) | (with_reducible first | refine AW.seq ?_ | refine AW.skip ?_ | refine AW.ret ?_ | refine And.intro ?_ ?_) | (with_reducible intro hg; first | simp only [eq_false hg, rsB] | simp only [eq_true hg, rsB]) | (with_reducible refine retQ_drop ?_; simp only [vRes, packRes, vLoad, vPart, lk, cond, Nat.reduceBEq, get_loc, getD_zero, getD_succ, true_and, List.length_cons, List.length_nil, Nat.reduceAdd, Nat.reduceLT, Nat.reduceLeDiff, List.take_succ_cons, List.take_zero, List.drop_succ_cons, List.drop_zero, wvar_3, wzero_3, wknd_3, wsn_3, wvar_4, wzero_4, wknd_4, wsn_4, wsl_27, wkn_27, wvar_27, wzero_27, wsl_46, wkn_46, wvar_46, wzero_46]) )
    all_goals first
      | (exfalso; omega)
      | skip
    refine ⟨i + 1, by omega, by omega, ?_⟩
    rw [hB2, hts, show k + (((xs.take i).flatten.length + (xs.getD i []).length : Nat) : Int) = k + ((xs.take i).flatten.length : Nat) + ((xs.getD i []).length : Nat) by omega]
    exact (Weak.slots (by repeat' first | exact trivial | exact ⟨rfl, trivial⟩ | refine ⟨rfl, ?_⟩))
  · obtain rfl : i = xs.length := by omega
    rw [mkTo_all, List.take_length]
    repeat' (first | (with_reducible first | refine AW.sreg envOk2 fun K hK => ?_ | refine AW.region envOk2 fun K hK => ?_ | refine vcL_nil ?_) | (with_reducible (first | refine vcL_cons fun K' hK' => ?_); simp only [isC, Bool.false_or, Bool.or_true, ↓reduceDIte, List.take_length, Nat.le_refl, List.drop_zero, vGuard, undef, Bool.not_eq_eq_eq_not, dstOk, vcOp, vcF, isPure, putS, vcCall, St.ev, St.put, lk, AVal.ofVal, initS, Nat.reduceLT, true_and, and_true, vBin, vPart, vLoad, vIdxA, vLen, AVal.flat, AVal.cell, cellsOk, setRange, ETy.enc, ETy.dec, ETy.sz, ETy.d, cond, Nat.reduceBEq, Nat.reduceAdd, Int.toNat_natCast, List.length_set, List.length_append, List.length_replicate, List.length_take, Nat.reduceSub, Nat.reduceEqDiff, get_loc, setBox_loc, next_eq, List.length_cons, List.length_nil, List.map_cons, List.map_nil, List.append_nil, List.nil_append, List.cons_append, List.set_cons_zero, List.set_cons_succ, getD_zero, getD_succ, List.getElem?_cons_succ, List.getElem?_cons_zero, List.take_succ_cons, List.take_zero, List.drop_succ_cons, List.all_cons, List.all_nil, Bool.and_true, Bool.true_and, Option.bind_some, Option.map_some, Option.map_none, decide_eq_true_eq, decide_eq_false_iff_not, ne_eq, Bool.not_eq_true, Bool.not_eq_false, Decidable.not_not, not_true_eq_false, not_false_eq_true, forall_const, false_implies, Bool.true_eq_false, Bool.false_eq_true, reduceCtorEq, decide_true, decide_false, Bool.not_true, Bool.not_false, if_true, if_false, Nat.zero_add, Nat.lt_irrefl, Value.oneCell', gt_iff_lt, Nat.reduceLeDiff, Nat.lt_add_one, wvar_3, wzero_3, wknd_3, wsn_3, wvar_4, wzero_4, wknd_4, wsn_4, wsl_27, wkn_27, wvar_27, wzero_27, wsl_46, wkn_46, wvar_46, wzero_46]; try simp (disch := omega) only [wrap64]) | (with_reducible refine hK' _ ?_; clear hK' K') | (with_reducible refine hK _ ?_; clear hK K) | (with_reducible first | refine And.intro (And.intro rfl rfl) ?_ | refine And.intro (by omega) ?_) | (with_reducible refine And.intro (fun hg => ?_) (fun hg => ?_) <;> first | simp only [eq_false hg, rsB] | simp only [eq_true hg, rsB] | simp only [hg, rsB]) | (with_reducible first | refine And.intro rfl (And.intro rfl rfl) | refine thenQ_n ?_ | refine thenQ_exit ?_ | refine thenQ_ret ?_ | refine midQ_ret ?_ | refine midQ_exit ?_ | refine blockQ_same ?_ | refine blockQ_ne (by decide) ?_ | refine blockQ_ret ?_ | refine blockQ_n ?_ | refine AW.exit ?_ | refine AW.block ?_ | refine AW.cond_t rfl ?_ | refine AW.cond_f rfl ?_ | refine AW.cond_dec rfl (fun hc => ?_) (fun hc => ?_)) | (with_reducible refine AW.cond rfl (fun hc => ?_) (fun hc => ?_) <;> try simp only [Bool.not_eq_eq_eq_not, Bool.not_true, Bool.not_false, decide_eq_true_eq, decide_eq_false_iff_not] at hc) | (with_reducible first | refine AW.seq ?_ | refine AW.skip ?_ | refine AW.ret ?_ | refine And.intro ?_ ?_) | (with_reducible intro hg; first | simp only [eq_false hg, rsB] | simp only [eq_true hg, rsB]) | (with_reducible refine retQ_drop ?_; simp only [vRes, packRes, vLoad, vPart, lk, cond, Nat.reduceBEq, get_loc, getD_zero, getD_succ, true_and, List.length_cons, List.length_nil, Nat.reduceAdd, Nat.reduceLT, Nat.reduceLeDiff, List.take_succ_cons, List.take_zero, List.drop_succ_cons, List.drop_zero, wvar_3, wzero_3, wknd_3, wsn_3, wvar_4, wzero_4, wknd_4, wsn_4, wsl_27, wkn_27, wvar_27, wzero_27, wsl_46, wkn_46, wvar_46, wzero_46]) )
    all_goals first
      | (exfalso; omega)
      | skip
    exact ⟨_, _, FinOk.base, rfl, rfl⟩
theorem lent_pNew {H pre post : List ABox} {P : Mz} {m k g : Nat} (hm : m = P.length) (hk : k = H.length + (pre.length + P.length)) (hg : g = H.length + pre.length) :
    LentV (H ++ (pre ++ (Eng.rowsB P ++ (.row false (.own .i64) (refs g P) :: post)))) (.sl 1 k 0 m) (.rd (.sli .i64) (P)) := by
  subst hk; subst hg
  exact LentV.refs (pre := []) (post := []) lk_own (fun i hi => lk_row hi) hm
/-- As lent_pNew, behind marks. -/
theorem lent_pMark {H pre post : List ABox} {P Q : Mz} {m k g : Nat} (hl : ∀ i, (Q.getD i []).length = (P.getD i []).length) (hQ : Q.length = P.length) (hm : m = P.length) (hk : k = H.length + (pre.length + P.length)) (hg : g = H.length + pre.length) :
    LentV (H ++ (pre ++ (Eng.rowsB Q ++ (.row false (.own .i64) (refs g P) :: post)))) (.sl 1 k 0 m) (.rd (.sli .i64) (Q)) := by
  have e : refs g P = refs g Q := by
    apply List.ext_getElem (by rw [refs_len, refs_len, hQ])
    intro i h1 h2
    have h1' : i < P.length := by rw [refs_len] at h1; exact h1
    have a := refs_get (g := g) h1'
    have b := refs_get (g := g) (xs := Q) (i := i) (by omega)
    rw [hl] at b
    have c : (refs g P).getD i none = (refs g Q).getD i none := a.trans b.symm
    simpa [List.getD, h1, h2] using c
  rw [e]
  exact lent_pNew (hm.trans hQ.symm) (by rw [hk, hQ]) hg
theorem markMz_ac (xs : Mz) (k : Int) (hx : xs.length ≤ 2000000) (ht : xs.flatten.length ≤ 10000000) (hk : 0 ≤ k ∧ k ≤ 100000000) (H pre post : List ABox) :
    AC Tryd.prog 41 [.agg [.sl 1 (H.length + (pre.length + xs.length)) 0 xs.length], .v (.int .i64 (k))] (H ++ (pre ++ (Eng.rowsB xs ++ (.row false (.own .i64) (refs (H.length + pre.length) xs) :: post))))
      (fun r H' => r = .v (.int .i64 (k + (xs.flatten.length : Nat))) ∧ H' = H ++ (pre ++ (Eng.rowsB (marksM k xs) ++ (.row false (.own .i64) (refs (H.length + pre.length) xs) :: (post ++ [.dead]))))) := by
  have hml := marksM_len k xs
  obtain ⟨B, hBe⟩ : ∃ B, H ++ (pre ++ (Eng.rowsB xs ++ (.row false (.own .i64) (refs (H.length + pre.length) xs) :: post))) = B := ⟨_, rfl⟩
  obtain ⟨B2, hB2⟩ : ∃ B, H ++ (pre ++ (Eng.rowsB (marksM k xs) ++ (.row false (.own .i64) (refs (H.length + pre.length) xs) :: post))) = B := ⟨_, rfl⟩
  have hbl : B2.length = B.length := by rw [← hBe, ← hB2]; simp [rowsB_len, hml]
  have hcall : ∀ X : ABox, AC Tryd.prog 80 [.sl 1 (H.length + (pre.length + xs.length)) 0 xs.length, .v (.int .i64 (k))] (B ++ [X]) (fun r H' => r = .v (.int .i64 (k + (xs.flatten.length : Nat))) ∧ H' = B2 ++ [X]) := fun X => by
    have h := mark36_ac xs k hx ht hk H pre (post ++ [X])
    have e : ∀ ys : Mz, H ++ (pre ++ (Eng.rowsB ys ++ (ABox.row false (.own .i64) (refs (H.length + pre.length) xs) :: (post ++ [X])))) = (H ++ (pre ++ (Eng.rowsB ys ++ (ABox.row false (.own .i64) (refs (H.length + pre.length) xs) :: post)))) ++ [X] := fun ys => by simp
    rw [e, e, hBe, hB2] at h
    exact h
  have hfin : H ++ (pre ++ (Eng.rowsB (marksM k xs) ++ (.row false (.own .i64) (refs (H.length + pre.length) xs) :: (post ++ [.dead])))) = B2 ++ [.dead] := by rw [← hB2]; simp
  rw [hBe, hfin]
  refine AC.enter envOk2 Tryd.func41 rfl (by decide) Tryd.ntmps41 Tryd.results41 (by simp) fun hB => ?_
  repeat' (first | (with_reducible first | refine AW.sreg envOk2 fun K hK => ?_ | refine AW.region envOk2 fun K hK => ?_ | refine vcL_nil ?_) | (with_reducible (first | refine vcL_cons fun K' hK' => ?_); simp only [isC, Bool.false_or, Bool.or_true, ↓reduceDIte, List.take_length, Nat.le_refl, List.drop_zero, vGuard, undef, Bool.not_eq_eq_eq_not, dstOk, vcOp, vcF, isPure, putS, vcCall, St.ev, St.put, lk, AVal.ofVal, initS, Nat.reduceLT, true_and, and_true, vPart, vLoad, vFldA, vBox, partsA, fillA, decAll, AVal.flat, AVal.cell, cellsOk, setRange, ETy.enc, ETy.dec, ETy.sz, ETy.d, cond, Nat.reduceBEq, Nat.reduceAdd, Int.toNat_natCast, List.length_set, List.length_append, List.length_replicate, List.length_take, Nat.reduceSub, Nat.reduceEqDiff, get_loc, setBox_loc, next_eq, List.length_cons, List.length_nil, List.map_cons, List.map_nil, List.append_nil, List.nil_append, List.cons_append, List.set_cons_zero, List.set_cons_succ, getD_zero, getD_succ, List.getElem?_cons_succ, List.getElem?_cons_zero, List.take_succ_cons, List.take_zero, List.drop_succ_cons, List.all_cons, List.all_nil, Bool.and_true, Bool.true_and, Option.bind_some, Option.map_some, Option.map_none, decide_eq_true_eq, decide_eq_false_iff_not, ne_eq, Bool.not_eq_true, Bool.not_eq_false, Decidable.not_not, not_true_eq_false, not_false_eq_true, forall_const, false_implies, Bool.true_eq_false, Bool.false_eq_true, reduceCtorEq, decide_true, decide_false, Bool.not_true, Bool.not_false, if_true, if_false, Nat.zero_add, Nat.lt_irrefl, Value.oneCell', gt_iff_lt, Nat.reduceLeDiff, Nat.lt_add_one, wvar_3, wzero_3, wknd_3, wsn_3, wsl_46, wkn_46, wvar_46, wzero_46, wvar_51, wzero_51, wbld_51, wfld_51_0]; try simp (disch := omega) only [wrap64]) | (with_reducible refine hK' _ ?_; clear hK' K') | (with_reducible refine hK _ ?_; clear hK K) | ((with_reducible show vCall _ (AVal.fn 80 _) _ _ _); refine vCall_toB (hcall _) hbl ?_) | (with_reducible first | refine And.intro (And.intro rfl rfl) ?_ | refine And.intro (by omega) ?_) | (with_reducible refine And.intro (fun hg => ?_) (fun hg => ?_) <;> first | simp only [eq_false hg, rsB] | simp only [eq_true hg, rsB] | simp only [hg, rsB]) | (with_reducible first | refine And.intro rfl (And.intro rfl rfl) | refine thenQ_n ?_ | refine thenQ_exit ?_ | refine thenQ_ret ?_ | refine midQ_ret ?_ | refine midQ_exit ?_ | refine blockQ_same ?_ | refine blockQ_ne (by decide) ?_ | refine blockQ_ret ?_ | refine blockQ_n ?_ | refine AW.exit ?_ | refine AW.block ?_ | refine AW.cond_t rfl ?_ | refine AW.cond_f rfl ?_ | refine AW.cond_dec rfl (fun hc => ?_) (fun hc => ?_)) | (with_reducible refine AW.cond rfl (fun hc => ?_) (fun hc => ?_) <;> try simp only [Bool.not_eq_eq_eq_not, Bool.not_true, Bool.not_false, decide_eq_true_eq, decide_eq_false_iff_not] at hc) | (with_reducible first | refine AW.seq ?_ | refine AW.skip ?_ | refine AW.ret ?_ | refine And.intro ?_ ?_) | (with_reducible intro hg; first | simp only [eq_false hg, rsB] | simp only [eq_true hg, rsB]) | (with_reducible refine retQ_drop ?_; simp only [vRes, packRes, vLoad, vPart, lk, cond, Nat.reduceBEq, get_loc, getD_zero, getD_succ, true_and, List.length_cons, List.length_nil, Nat.reduceAdd, Nat.reduceLT, Nat.reduceLeDiff, List.take_succ_cons, List.take_zero, List.drop_succ_cons, List.drop_zero, wvar_3, wzero_3, wknd_3, wsn_3, wsl_46, wkn_46, wvar_46, wzero_46, wvar_51, wzero_51, wbld_51, wfld_51_0]) )
  exact ⟨_, _, FinOk.kill0, rfl, rfl⟩
theorem marksM_lens (k : Int) (P : Mz) (i : Nat) : ((marksM k P).getD i []).length = (P.getD i []).length := by
  by_cases h : i < P.length
  · rw [marksM_get h, marks_len]
  · simp only [List.getD]
    rw [List.getElem?_eq_none (by rw [marksM_len]; omega), List.getElem?_eq_none (by omega)]
theorem mark36n_ac (k : Int) (H : List ABox) : AC Tryd.prog 80 [.v (.slice none 0 0), .v (.int .i64 (k))] H (fun r H' => r = .v (.int .i64 (k)) ∧ H' = H) := by
  refine AC.enter envOk Tryd.func80 rfl (by decide) Tryd.ntmps80 Tryd.results80 (by simp) fun hB => ?_
  repeat' (first | (with_reducible first | refine AW.sreg envOk fun K hK => ?_ | refine AW.region envOk fun K hK => ?_ | refine vcL_nil ?_) | (with_reducible (first | refine vcL_cons fun K' hK' => ?_); simp only [isC, Bool.false_or, Bool.or_true, ↓reduceDIte, List.take_length, Nat.le_refl, List.drop_zero, vGuard, undef, Bool.not_eq_eq_eq_not, dstOk, vcOp, vcF, isPure, putS, vcCall, St.ev, St.put, lk, AVal.ofVal, initS, Nat.reduceLT, true_and, and_true, vBin, vPart, vLoad, vIdxA, vLen, AVal.flat, AVal.cell, cellsOk, setRange, ETy.enc, ETy.dec, ETy.sz, ETy.d, cond, Nat.reduceBEq, Nat.reduceAdd, Int.toNat_natCast, List.length_set, List.length_append, List.length_replicate, List.length_take, Nat.reduceSub, Nat.reduceEqDiff, get_loc, setBox_loc, next_eq, List.length_cons, List.length_nil, List.map_cons, List.map_nil, List.append_nil, List.nil_append, List.cons_append, List.set_cons_zero, List.set_cons_succ, getD_zero, getD_succ, List.getElem?_cons_succ, List.getElem?_cons_zero, List.take_succ_cons, List.take_zero, List.drop_succ_cons, List.all_cons, List.all_nil, Bool.and_true, Bool.true_and, Option.bind_some, Option.map_some, Option.map_none, decide_eq_true_eq, decide_eq_false_iff_not, ne_eq, Bool.not_eq_true, Bool.not_eq_false, Decidable.not_not, not_true_eq_false, not_false_eq_true, forall_const, false_implies, Bool.true_eq_false, Bool.false_eq_true, reduceCtorEq, decide_true, decide_false, Bool.not_true, Bool.not_false, if_true, if_false, Nat.zero_add, Nat.lt_irrefl, Value.oneCell', gt_iff_lt, Nat.reduceLeDiff, Nat.lt_add_one, vvar_3, vzero_3, vknd_3, vsn_3, vvar_4, vzero_4, vknd_4, vsn_4, vsl_27, vkn_27, vvar_27, vzero_27, vsl_46, vkn_46, vvar_46, vzero_46]; try simp (disch := omega) only [wrap64]) | (with_reducible refine hK' _ ?_; clear hK' K') | (with_reducible refine hK _ ?_; clear hK K) | (with_reducible first | refine And.intro (And.intro rfl rfl) ?_ | refine And.intro (by omega) ?_) | (with_reducible refine And.intro (fun hg => ?_) (fun hg => ?_) <;> first | simp only [eq_false hg, rsB] | simp only [eq_true hg, rsB] | simp only [hg, rsB]) | (with_reducible first | refine And.intro rfl (And.intro rfl rfl) | refine thenQ_n ?_ | refine thenQ_exit ?_ | refine thenQ_ret ?_ | refine midQ_ret ?_ | refine midQ_exit ?_ | refine blockQ_same ?_ | refine blockQ_ne (by decide) ?_ | refine blockQ_ret ?_ | refine blockQ_n ?_ | refine AW.exit ?_ | refine AW.block ?_ | refine AW.cond_t rfl ?_ | refine AW.cond_f rfl ?_ | refine AW.cond_dec rfl (fun hc => ?_) (fun hc => ?_)) | (with_reducible refine AW.cond rfl (fun hc => ?_) (fun hc => ?_) <;> try simp only [Bool.not_eq_eq_eq_not, Bool.not_true, Bool.not_false, decide_eq_true_eq, decide_eq_false_iff_not] at hc) | (with_reducible first | refine AW.seq ?_ | refine AW.skip ?_ | refine AW.ret ?_ | refine And.intro ?_ ?_) | (with_reducible intro hg; first | simp only [eq_false hg, rsB] | simp only [eq_true hg, rsB]) | (with_reducible refine retQ_drop ?_; simp only [vRes, packRes, vLoad, vPart, lk, cond, Nat.reduceBEq, get_loc, getD_zero, getD_succ, true_and, List.length_cons, List.length_nil, Nat.reduceAdd, Nat.reduceLT, Nat.reduceLeDiff, List.take_succ_cons, List.take_zero, List.drop_succ_cons, List.drop_zero, vvar_3, vzero_3, vknd_3, vsn_3, vvar_4, vzero_4, vknd_4, vsn_4, vsl_27, vkn_27, vvar_27, vzero_27, vsl_46, vkn_46, vvar_46, vzero_46]) )
  refine AW.loop (fun i : Nat => (⟨19, [(0, .v (.slice none 0 0)), (1, .v (.int .i64 (k))), (5, .v (.int .i64 (0)))], H, []⟩ : St)) (fun _ => True) (fun i => 0) 0 trivial (Weak.slots (by repeat' first | exact trivial | exact ⟨rfl, trivial⟩ | refine ⟨rfl, ?_⟩)) ?_
  intro i _
  repeat' (first | (with_reducible first | refine AW.sreg envOk fun K hK => ?_ | refine AW.region envOk fun K hK => ?_ | refine vcL_nil ?_) | (with_reducible (first | refine vcL_cons fun K' hK' => ?_); simp only [isC, Bool.false_or, Bool.or_true, ↓reduceDIte, List.take_length, Nat.le_refl, List.drop_zero, vGuard, undef, Bool.not_eq_eq_eq_not, dstOk, vcOp, vcF, isPure, putS, vcCall, St.ev, St.put, lk, AVal.ofVal, initS, Nat.reduceLT, true_and, and_true, vBin, vPart, vLoad, vIdxA, vLen, AVal.flat, AVal.cell, cellsOk, setRange, ETy.enc, ETy.dec, ETy.sz, ETy.d, cond, Nat.reduceBEq, Nat.reduceAdd, Int.toNat_natCast, List.length_set, List.length_append, List.length_replicate, List.length_take, Nat.reduceSub, Nat.reduceEqDiff, get_loc, setBox_loc, next_eq, List.length_cons, List.length_nil, List.map_cons, List.map_nil, List.append_nil, List.nil_append, List.cons_append, List.set_cons_zero, List.set_cons_succ, getD_zero, getD_succ, List.getElem?_cons_succ, List.getElem?_cons_zero, List.take_succ_cons, List.take_zero, List.drop_succ_cons, List.all_cons, List.all_nil, Bool.and_true, Bool.true_and, Option.bind_some, Option.map_some, Option.map_none, decide_eq_true_eq, decide_eq_false_iff_not, ne_eq, Bool.not_eq_true, Bool.not_eq_false, Decidable.not_not, not_true_eq_false, not_false_eq_true, forall_const, false_implies, Bool.true_eq_false, Bool.false_eq_true, reduceCtorEq, decide_true, decide_false, Bool.not_true, Bool.not_false, if_true, if_false, Nat.zero_add, Nat.lt_irrefl, Value.oneCell', gt_iff_lt, Nat.reduceLeDiff, Nat.lt_add_one, vvar_3, vzero_3, vknd_3, vsn_3, vvar_4, vzero_4, vknd_4, vsn_4, vsl_27, vkn_27, vvar_27, vzero_27, vsl_46, vkn_46, vvar_46, vzero_46]; try simp (disch := omega) only [wrap64]) | (with_reducible refine hK' _ ?_; clear hK' K') | (with_reducible refine hK _ ?_; clear hK K) | (with_reducible first | refine And.intro (And.intro rfl rfl) ?_ | refine And.intro (by omega) ?_) | (with_reducible refine And.intro (fun hg => ?_) (fun hg => ?_) <;> first | simp only [eq_false hg, rsB] | simp only [eq_true hg, rsB] | simp only [hg, rsB]) | (with_reducible first | refine And.intro rfl (And.intro rfl rfl) | refine thenQ_n ?_ | refine thenQ_exit ?_ | refine thenQ_ret ?_ | refine midQ_ret ?_ | refine midQ_exit ?_ | refine blockQ_same ?_ | refine blockQ_ne (by decide) ?_ | refine blockQ_ret ?_ | refine blockQ_n ?_ | refine AW.exit ?_ | refine AW.block ?_ | refine AW.cond_t rfl ?_ | refine AW.cond_f rfl ?_ | refine AW.cond_dec rfl (fun hc => ?_) (fun hc => ?_)) | (with_reducible refine AW.cond rfl (fun hc => ?_) (fun hc => ?_) <;> try simp only [Bool.not_eq_eq_eq_not, Bool.not_true, Bool.not_false, decide_eq_true_eq, decide_eq_false_iff_not] at hc) | (with_reducible first | refine AW.seq ?_ | refine AW.skip ?_ | refine AW.ret ?_ | refine And.intro ?_ ?_) | (with_reducible intro hg; first | simp only [eq_false hg, rsB] | simp only [eq_true hg, rsB]) | (with_reducible refine retQ_drop ?_; simp only [vRes, packRes, vLoad, vPart, lk, cond, Nat.reduceBEq, get_loc, getD_zero, getD_succ, true_and, List.length_cons, List.length_nil, Nat.reduceAdd, Nat.reduceLT, Nat.reduceLeDiff, List.take_succ_cons, List.take_zero, List.drop_succ_cons, List.drop_zero, vvar_3, vzero_3, vknd_3, vsn_3, vvar_4, vzero_4, vknd_4, vsn_4, vsl_27, vkn_27, vvar_27, vzero_27, vsl_46, vkn_46, vvar_46, vzero_46]) )
  all_goals first | exact ⟨_, _, FinOk.drop hB (Pl.ids (by (repeat' (first | exact Pl.v _ | exact Pl.junk | exact Pl.rd rfl _ | exact pl_nil | refine pl_cons ?_ ?_ | refine Pl.agg ?_ | refine Pl.tup ?_ | refine Pl.rp ?_ | refine Pl.fn ?_)); (first | done | fail))), rfl, rfl⟩ | (exfalso; omega)
theorem held37_ac (xs : Mz) (k : Int) (hx : xs.length ≤ 2000000) (ht : xs.flatten.length ≤ 10000000) (hk : 0 ≤ k ∧ k ≤ 100000000) (H : List ABox) : AC Tryd.prog 81 [.rd (.sli .i64) (marksM k xs), .v (.int .i64 (k))] H (fun r H' => r = .v (.int .i64 (k + (xs.flatten.length : Nat))) ∧ H' = H) := by
  have hml := marksM_len k xs
  refine AC.enter envOk Tryd.func81 rfl (by decide) Tryd.ntmps81 Tryd.results81 (by simp) fun hB => ?_
  repeat' (first | (with_reducible first | refine AW.sreg envOk fun K hK => ?_ | refine AW.region envOk fun K hK => ?_ | refine vcL_nil ?_) | (with_reducible (first | refine vcL_cons fun K' hK' => ?_); simp only [isC, Bool.false_or, Bool.or_true, ↓reduceDIte, List.take_length, Nat.le_refl, List.drop_zero, vGuard, undef, Bool.not_eq_eq_eq_not, dstOk, vcOp, vcF, isPure, putS, vcCall, St.ev, St.put, lk, AVal.ofVal, initS, Nat.reduceLT, true_and, and_true, vBin, vPart, vLoad, vIdxA, vLen, AVal.flat, AVal.cell, cellsOk, setRange, ETy.enc, ETy.dec, ETy.sz, ETy.d, cond, Nat.reduceBEq, Nat.reduceAdd, Int.toNat_natCast, List.length_set, List.length_append, List.length_replicate, List.length_take, Nat.reduceSub, Nat.reduceEqDiff, get_loc, setBox_loc, next_eq, List.length_cons, List.length_nil, List.map_cons, List.map_nil, List.append_nil, List.nil_append, List.cons_append, List.set_cons_zero, List.set_cons_succ, getD_zero, getD_succ, List.getElem?_cons_succ, List.getElem?_cons_zero, List.take_succ_cons, List.take_zero, List.drop_succ_cons, List.all_cons, List.all_nil, Bool.and_true, Bool.true_and, Option.bind_some, Option.map_some, Option.map_none, decide_eq_true_eq, decide_eq_false_iff_not, ne_eq, Bool.not_eq_true, Bool.not_eq_false, Decidable.not_not, not_true_eq_false, not_false_eq_true, forall_const, false_implies, Bool.true_eq_false, Bool.false_eq_true, reduceCtorEq, decide_true, decide_false, Bool.not_true, Bool.not_false, if_true, if_false, Nat.zero_add, Nat.lt_irrefl, Value.oneCell', gt_iff_lt, Nat.reduceLeDiff, Nat.lt_add_one, vvar_3, vzero_3, vknd_3, vsn_3, vvar_4, vzero_4, vknd_4, vsn_4, vsl_27, vkn_27, vvar_27, vzero_27, vsl_46, vkn_46, vvar_46, vzero_46]; try simp (disch := omega) only [wrap64]) | (with_reducible refine hK' _ ?_; clear hK' K') | (with_reducible refine hK _ ?_; clear hK K) | (with_reducible first | refine And.intro (And.intro rfl rfl) ?_ | refine And.intro (by omega) ?_) | (with_reducible refine And.intro (fun hg => ?_) (fun hg => ?_) <;> first | simp only [eq_false hg, rsB] | simp only [eq_true hg, rsB] | simp only [hg, rsB]) | (with_reducible first | refine And.intro rfl (And.intro rfl rfl) | refine thenQ_n ?_ | refine thenQ_exit ?_ | refine thenQ_ret ?_ | refine midQ_ret ?_ | refine midQ_exit ?_ | refine blockQ_same ?_ | refine blockQ_ne (by decide) ?_ | refine blockQ_ret ?_ | refine blockQ_n ?_ | refine AW.exit ?_ | refine AW.block ?_ | refine AW.cond_t rfl ?_ | refine AW.cond_f rfl ?_ | refine AW.cond_dec rfl (fun hc => ?_) (fun hc => ?_)) | (with_reducible refine AW.cond rfl (fun hc => ?_) (fun hc => ?_) <;> try simp only [Bool.not_eq_eq_eq_not, Bool.not_true, Bool.not_false, decide_eq_true_eq, decide_eq_false_iff_not] at hc) | (with_reducible first | refine AW.seq ?_ | refine AW.skip ?_ | refine AW.ret ?_ | refine And.intro ?_ ?_) | (with_reducible intro hg; first | simp only [eq_false hg, rsB] | simp only [eq_true hg, rsB]) | (with_reducible refine retQ_drop ?_; simp only [vRes, packRes, vLoad, vPart, lk, cond, Nat.reduceBEq, get_loc, getD_zero, getD_succ, true_and, List.length_cons, List.length_nil, Nat.reduceAdd, Nat.reduceLT, Nat.reduceLeDiff, List.take_succ_cons, List.take_zero, List.drop_succ_cons, List.drop_zero, vvar_3, vzero_3, vknd_3, vsn_3, vvar_4, vzero_4, vknd_4, vsn_4, vsl_27, vkn_27, vvar_27, vzero_27, vsl_46, vkn_46, vvar_46, vzero_46]) )
  refine AW.loop (fun i : Nat => (⟨21, [(0, .rd (.sli .i64) (marksM k xs)), (1, .v (.int .i64 (k + ((xs.take i).flatten.length : Nat)))), (5, .v (.int .i64 ((i : Int))))], H, []⟩ : St)) (fun i => i ≤ xs.length) (fun i => xs.length - i) 0 (Nat.zero_le _) ?_ ?_
  · rw [List.take_zero, List.flatten_nil, List.length_nil, Int.natCast_zero, Int.add_zero]
    exact (Weak.slots (by repeat' first | exact trivial | exact ⟨rfl, trivial⟩ | refine ⟨rfl, ?_⟩))
  intro i hi
  by_cases hin : i < xs.length
  · have hg2 := marksM_get (k := k) hin
    have htl := tot_le (xs := xs) i
    have hts := tot_step hin
    have htl2 := tot_le (xs := xs) (i + 1)
    repeat' (first | (with_reducible first | refine AW.sreg envOk fun K hK => ?_ | refine AW.region envOk fun K hK => ?_ | refine vcL_nil ?_) | (with_reducible (first | refine vcL_cons fun K' hK' => ?_); simp only [isC, Bool.false_or, Bool.or_true, ↓reduceDIte, List.take_length, Nat.le_refl, List.drop_zero, vGuard, undef, Bool.not_eq_eq_eq_not, dstOk, vcOp, vcF, isPure, putS, vcCall, St.ev, St.put, lk, AVal.ofVal, initS, Nat.reduceLT, true_and, and_true, vBin, vPart, vLoad, vIdxA, vLen, AVal.flat, AVal.cell, cellsOk, setRange, ETy.enc, ETy.dec, ETy.sz, ETy.d, cond, Nat.reduceBEq, Nat.reduceAdd, Int.toNat_natCast, List.length_set, List.length_append, List.length_replicate, List.length_take, Nat.reduceSub, Nat.reduceEqDiff, get_loc, setBox_loc, next_eq, List.length_cons, List.length_nil, List.map_cons, List.map_nil, List.append_nil, List.nil_append, List.cons_append, List.set_cons_zero, List.set_cons_succ, getD_zero, getD_succ, List.getElem?_cons_succ, List.getElem?_cons_zero, List.take_succ_cons, List.take_zero, List.drop_succ_cons, List.all_cons, List.all_nil, Bool.and_true, Bool.true_and, Option.bind_some, Option.map_some, Option.map_none, decide_eq_true_eq, decide_eq_false_iff_not, ne_eq, Bool.not_eq_true, Bool.not_eq_false, Decidable.not_not, not_true_eq_false, not_false_eq_true, forall_const, false_implies, Bool.true_eq_false, Bool.false_eq_true, reduceCtorEq, decide_true, decide_false, Bool.not_true, Bool.not_false, if_true, if_false, Nat.zero_add, Nat.lt_irrefl, Value.oneCell', gt_iff_lt, Nat.reduceLeDiff, Nat.lt_add_one, vvar_3, vzero_3, vknd_3, vsn_3, vvar_4, vzero_4, vknd_4, vsn_4, vsl_27, vkn_27, vvar_27, vzero_27, vsl_46, vkn_46, vvar_46, vzero_46, hml, hg2]; try simp (disch := omega) only [wrap64]) | (with_reducible refine hK' _ ?_; clear hK' K') | (with_reducible refine hK _ ?_; clear hK K) | ((with_reducible show vCall _ (AVal.fn 29 _) _ _ _); refine vCall_pure (held29_ac _ _ (by omega) (by omega) _) ?_) | (with_reducible first | refine And.intro (And.intro rfl rfl) ?_ | refine And.intro (by omega) ?_) | (with_reducible refine And.intro (fun hg => ?_) (fun hg => ?_) <;> first | simp only [eq_false hg, rsB] | simp only [eq_true hg, rsB] | simp only [hg, rsB]) | (with_reducible first | refine And.intro rfl (And.intro rfl rfl) | refine thenQ_n ?_ | refine thenQ_exit ?_ | refine thenQ_ret ?_ | refine midQ_ret ?_ | refine midQ_exit ?_ | refine blockQ_same ?_ | refine blockQ_ne (by decide) ?_ | refine blockQ_ret ?_ | refine blockQ_n ?_ | refine AW.exit ?_ | refine AW.block ?_ | refine AW.cond_t rfl ?_ | refine AW.cond_f rfl ?_ | refine AW.cond_dec rfl (fun hc => ?_) (fun hc => ?_)) | (with_reducible refine AW.cond rfl (fun hc => ?_) (fun hc => ?_) <;> try simp only [Bool.not_eq_eq_eq_not, Bool.not_true, Bool.not_false, decide_eq_true_eq, decide_eq_false_iff_not] at hc) | (with_reducible first | refine AW.seq ?_ | refine AW.skip ?_ | refine AW.ret ?_ | refine And.intro ?_ ?_) | (with_reducible intro hg; first | simp only [eq_false hg, rsB] | simp only [eq_true hg, rsB]) | (with_reducible refine retQ_drop ?_; simp only [vRes, packRes, vLoad, vPart, lk, cond, Nat.reduceBEq, get_loc, getD_zero, getD_succ, true_and, List.length_cons, List.length_nil, Nat.reduceAdd, Nat.reduceLT, Nat.reduceLeDiff, List.take_succ_cons, List.take_zero, List.drop_succ_cons, List.drop_zero, vvar_3, vzero_3, vknd_3, vsn_3, vvar_4, vzero_4, vknd_4, vsn_4, vsl_27, vkn_27, vvar_27, vzero_27, vsl_46, vkn_46, vvar_46, vzero_46]) )
    all_goals first
      | (exfalso; omega)
      | (refine ⟨i + 1, by omega, by omega, ?_⟩
         rw [hts, show k + (((xs.take i).flatten.length + (xs.getD i []).length : Nat) : Int) = k + ((xs.take i).flatten.length : Nat) + ((xs.getD i []).length : Nat) by omega]
         exact (Weak.slots (by repeat' first | exact trivial | exact ⟨rfl, trivial⟩ | refine ⟨rfl, ?_⟩)))
      | skip
  · obtain rfl : i = xs.length := by omega
    repeat' (first | (with_reducible first | refine AW.sreg envOk fun K hK => ?_ | refine AW.region envOk fun K hK => ?_ | refine vcL_nil ?_) | (with_reducible (first | refine vcL_cons fun K' hK' => ?_); simp only [isC, Bool.false_or, Bool.or_true, ↓reduceDIte, List.take_length, Nat.le_refl, List.drop_zero, vGuard, undef, Bool.not_eq_eq_eq_not, dstOk, vcOp, vcF, isPure, putS, vcCall, St.ev, St.put, lk, AVal.ofVal, initS, Nat.reduceLT, true_and, and_true, vBin, vPart, vLoad, vIdxA, vLen, AVal.flat, AVal.cell, cellsOk, setRange, ETy.enc, ETy.dec, ETy.sz, ETy.d, cond, Nat.reduceBEq, Nat.reduceAdd, Int.toNat_natCast, List.length_set, List.length_append, List.length_replicate, List.length_take, Nat.reduceSub, Nat.reduceEqDiff, get_loc, setBox_loc, next_eq, List.length_cons, List.length_nil, List.map_cons, List.map_nil, List.append_nil, List.nil_append, List.cons_append, List.set_cons_zero, List.set_cons_succ, getD_zero, getD_succ, List.getElem?_cons_succ, List.getElem?_cons_zero, List.take_succ_cons, List.take_zero, List.drop_succ_cons, List.all_cons, List.all_nil, Bool.and_true, Bool.true_and, Option.bind_some, Option.map_some, Option.map_none, decide_eq_true_eq, decide_eq_false_iff_not, ne_eq, Bool.not_eq_true, Bool.not_eq_false, Decidable.not_not, not_true_eq_false, not_false_eq_true, forall_const, false_implies, Bool.true_eq_false, Bool.false_eq_true, reduceCtorEq, decide_true, decide_false, Bool.not_true, Bool.not_false, if_true, if_false, Nat.zero_add, Nat.lt_irrefl, Value.oneCell', gt_iff_lt, Nat.reduceLeDiff, Nat.lt_add_one, vvar_3, vzero_3, vknd_3, vsn_3, vvar_4, vzero_4, vknd_4, vsn_4, vsl_27, vkn_27, vvar_27, vzero_27, vsl_46, vkn_46, vvar_46, vzero_46, hml]; try simp (disch := omega) only [wrap64]) | (with_reducible refine hK' _ ?_; clear hK' K') | (with_reducible refine hK _ ?_; clear hK K) | (with_reducible first | refine And.intro (And.intro rfl rfl) ?_ | refine And.intro (by omega) ?_) | (with_reducible refine And.intro (fun hg => ?_) (fun hg => ?_) <;> first | simp only [eq_false hg, rsB] | simp only [eq_true hg, rsB] | simp only [hg, rsB]) | (with_reducible first | refine And.intro rfl (And.intro rfl rfl) | refine thenQ_n ?_ | refine thenQ_exit ?_ | refine thenQ_ret ?_ | refine midQ_ret ?_ | refine midQ_exit ?_ | refine blockQ_same ?_ | refine blockQ_ne (by decide) ?_ | refine blockQ_ret ?_ | refine blockQ_n ?_ | refine AW.exit ?_ | refine AW.block ?_ | refine AW.cond_t rfl ?_ | refine AW.cond_f rfl ?_ | refine AW.cond_dec rfl (fun hc => ?_) (fun hc => ?_)) | (with_reducible refine AW.cond rfl (fun hc => ?_) (fun hc => ?_) <;> try simp only [Bool.not_eq_eq_eq_not, Bool.not_true, Bool.not_false, decide_eq_true_eq, decide_eq_false_iff_not] at hc) | (with_reducible first | refine AW.seq ?_ | refine AW.skip ?_ | refine AW.ret ?_ | refine And.intro ?_ ?_) | (with_reducible intro hg; first | simp only [eq_false hg, rsB] | simp only [eq_true hg, rsB]) | (with_reducible refine retQ_drop ?_; simp only [vRes, packRes, vLoad, vPart, lk, cond, Nat.reduceBEq, get_loc, getD_zero, getD_succ, true_and, List.length_cons, List.length_nil, Nat.reduceAdd, Nat.reduceLT, Nat.reduceLeDiff, List.take_succ_cons, List.take_zero, List.drop_succ_cons, List.drop_zero, vvar_3, vzero_3, vknd_3, vsn_3, vvar_4, vzero_4, vknd_4, vsn_4, vsl_27, vkn_27, vvar_27, vzero_27, vsl_46, vkn_46, vvar_46, vzero_46]) )
    all_goals first
      | (exfalso; omega)
      | exact ⟨_, _, FinOk.drop hB (Pl.ids (by (repeat' (first | exact Pl.v _ | exact Pl.junk | exact Pl.rd rfl _ | exact pl_nil | refine pl_cons ?_ ?_ | refine Pl.agg ?_ | refine Pl.tup ?_ | refine Pl.rp ?_ | refine Pl.fn ?_)); (first | done | fail))), rfl, rfl⟩
end Go.Proofs.YtlgagjboijkpgaaDoor
end
section
set_option linter.unusedSimpArgs false
set_option linter.unusedVariables false
set_option maxHeartbeats 4000000
namespace Go.Proofs.YtlgagjboijkpgaaDoor
open Go.Lib Go.Eng
theorem FinOk.dropTo {m N : Nat} {s : List (Nat × AVal)} {G K l : List ABox} {r : AVal} (hB : BaseLt G.length G) (hm : m = G.length) (hr : IdsLt G.length r) : FinOk m ⟨N, s, G ++ K, l⟩ r r G := fun c v w hn hv hh =>
  FinOk.drop (n := m) (m := G.length) (st := ⟨N, s, G, K ++ l⟩) hB hr rfl c v w (by show m ≤ G.length; omega) hv (by
    have h : RelH c ((G ++ K) ++ l) w := hh
    rw [List.append_assoc] at h
    exact h)
theorem is76w_ac (m : Mz) (hm : Fits 2000000 m) (H : List ABox) : AC Tryd.prog 76 [.agg [.rd (.sli .i64) (m)]] H (fun r H' => r = .v (.bool (decide (MzOk m))) ∧ H' = H) := by
  obtain ⟨hm1, hm2⟩ := hm
  have h0 := hm2 0
  refine AC.enter envOk Tryd.func76 rfl (by decide) Tryd.ntmps76 Tryd.results76 (by simp) fun hB => ?_
  repeat' (first | (with_reducible first | refine AW.sreg envOk fun K hK => ?_ | refine AW.region envOk fun K hK => ?_ | refine vcL_nil ?_) | (with_reducible (first | refine vcL_cons fun K' hK' => ?_); simp only [isC, Bool.false_or, Bool.or_true, ↓reduceDIte, List.take_length, Nat.le_refl, List.drop_zero, vGuard, undef, Bool.not_eq_eq_eq_not, dstOk, vcOp, vcF, isPure, putS, vcCall, St.ev, St.put, lk, AVal.ofVal, initS, Nat.reduceLT, true_and, and_true, vBin, vUn, vPick, vPart, vLoad, vIdxA, vFldA, vLen, vBox, partsA, fillA, decAll, AVal.flat, AVal.cell, cellsOk, setRange, ETy.enc, ETy.dec, ETy.sz, ETy.d, cond, Nat.reduceBEq, Nat.reduceAdd, Int.toNat_natCast, List.length_set, List.length_append, List.length_replicate, List.length_take, Nat.reduceSub, Nat.reduceEqDiff, get_loc, setBox_loc, next_eq, List.length_cons, List.length_nil, List.map_cons, List.map_nil, List.append_nil, List.nil_append, List.cons_append, List.set_cons_zero, List.set_cons_succ, getD_zero, getD_succ, List.getElem?_cons_succ, List.getElem?_cons_zero, List.take_succ_cons, List.take_zero, List.drop_succ_cons, List.all_cons, List.all_nil, Bool.and_true, Bool.true_and, Option.bind_some, Option.map_some, Option.map_none, decide_eq_true_eq, decide_eq_false_iff_not, ne_eq, Bool.not_eq_true, Bool.not_eq_false, Decidable.not_not, not_true_eq_false, not_false_eq_true, forall_const, false_implies, Bool.true_eq_false, Bool.false_eq_true, reduceCtorEq, decide_true, decide_false, Bool.not_true, Bool.not_false, if_true, if_false, Nat.zero_add, Nat.lt_irrefl, Value.oneCell', gt_iff_lt, Nat.reduceLeDiff, Nat.lt_add_one, vvar_3, vzero_3, vknd_3, vsn_3, vvar_4, vzero_4, vknd_4, vsn_4, vsl_27, vkn_27, vvar_27, vzero_27, vsl_46, vkn_46, vvar_46, vzero_46, vvar_51, vzero_51, vbld_51, vfld_51_0, Int.toNat_zero, Int.reduceToNat]; try simp (disch := omega) only [wrap64]) | (with_reducible refine hK' _ ?_; clear hK' K') | (with_reducible refine hK _ ?_; clear hK K) | (with_reducible first | refine vCall_pure (in51_ac _ _ _ _) ?_ | refine And.intro (And.intro rfl rfl) ?_ | refine And.intro (by omega) ?_) | (with_reducible refine And.intro (fun hg => ?_) (fun hg => ?_) <;> first | simp only [eq_false hg, rsB] | simp only [eq_true hg, rsB] | simp only [hg, rsB]) | (with_reducible first | refine And.intro rfl (And.intro rfl rfl) | refine thenQ_n ?_ | refine thenQ_exit ?_ | refine thenQ_ret ?_ | refine midQ_ret ?_ | refine midQ_exit ?_ | refine blockQ_same ?_ | refine blockQ_ne (by decide) ?_ | refine blockQ_ret ?_ | refine blockQ_n ?_ | refine AW.exit ?_ | refine AW.block ?_ | refine AW.cond_t rfl ?_ | refine AW.cond_f rfl ?_ | refine AW.cond_dec rfl (fun hc => ?_) (fun hc => ?_)) | (with_reducible refine AW.cond rfl (fun hc => ?_) (fun hc => ?_) <;> try simp only [Bool.not_eq_eq_eq_not, Bool.not_true, Bool.not_false, decide_eq_true_eq, decide_eq_false_iff_not] at hc) | (with_reducible first | refine AW.seq ?_ | refine AW.skip ?_ | refine AW.ret ?_ | refine And.intro ?_ ?_) | (with_reducible intro hg; first | simp only [eq_false hg, rsB] | simp only [eq_true hg, rsB]) | (with_reducible refine retQ_drop ?_; simp only [vRes, packRes, vLoad, vPart, lk, cond, Nat.reduceBEq, get_loc, getD_zero, getD_succ, true_and, List.length_cons, List.length_nil, Nat.reduceAdd, Nat.reduceLT, Nat.reduceLeDiff, List.take_succ_cons, List.take_zero, List.drop_succ_cons, List.drop_zero, vvar_3, vzero_3, vknd_3, vsn_3, vvar_4, vzero_4, vknd_4, vsn_4, vsl_27, vkn_27, vvar_27, vzero_27, vsl_46, vkn_46, vvar_46, vzero_46, vvar_51, vzero_51, vbld_51, vfld_51_0]) )
  all_goals first
    | (refine ⟨_, _, FinOk.drop hB (Pl.ids (by (repeat' (first | exact Pl.v _ | exact Pl.junk | exact Pl.rd rfl _ | exact pl_nil | refine pl_cons ?_ ?_ | refine Pl.agg ?_ | refine Pl.tup ?_ | refine Pl.rp ?_ | refine Pl.fn ?_)); (first | done | fail))), ?_, rfl⟩
       refine v_bool ?_
       simp only [Bool.false_eq_true, false_iff]
       intro h; have h1 := h.1; have h2 := h.2.1; unfold width at h2; omega)
    | skip
  refine AW.loop (fun y : Nat => (⟨39, [(1, .ptr 1 (H.length + 0) 0 0), (20, .rd (.sli .i64) (m)), (21, .v (.int .i64 ((m.length : Int)))), (22, .v (.int .i64 ((y : Int))))], H, [.box false [.rd (.sli .i64) (m)]]⟩ : St)) (fun y => y ≤ m.length ∧ ∀ j, j < y → RowIs (width m) (m.getD j [])) (fun y => m.length - y) 0 ⟨Nat.zero_le _, fun j h => absurd h (by omega)⟩ (Weak.slots (by repeat' first | exact trivial | exact ⟨rfl, trivial⟩ | refine ⟨rfl, ?_⟩)) ?_
  intro y ⟨hy, hY⟩
  have hl := hm2 y
  repeat' (first | (with_reducible first | refine AW.sreg envOk fun K hK => ?_ | refine AW.region envOk fun K hK => ?_ | refine vcL_nil ?_) | (with_reducible (first | refine vcL_cons fun K' hK' => ?_); simp only [isC, Bool.false_or, Bool.or_true, ↓reduceDIte, List.take_length, Nat.le_refl, List.drop_zero, vGuard, undef, Bool.not_eq_eq_eq_not, dstOk, vcOp, vcF, isPure, putS, vcCall, St.ev, St.put, lk, AVal.ofVal, initS, Nat.reduceLT, true_and, and_true, vBin, vUn, vPick, vPart, vLoad, vIdxA, vFldA, vLen, vBox, partsA, fillA, decAll, AVal.flat, AVal.cell, cellsOk, setRange, ETy.enc, ETy.dec, ETy.sz, ETy.d, cond, Nat.reduceBEq, Nat.reduceAdd, Int.toNat_natCast, List.length_set, List.length_append, List.length_replicate, List.length_take, Nat.reduceSub, Nat.reduceEqDiff, get_loc, setBox_loc, next_eq, List.length_cons, List.length_nil, List.map_cons, List.map_nil, List.append_nil, List.nil_append, List.cons_append, List.set_cons_zero, List.set_cons_succ, getD_zero, getD_succ, List.getElem?_cons_succ, List.getElem?_cons_zero, List.take_succ_cons, List.take_zero, List.drop_succ_cons, List.all_cons, List.all_nil, Bool.and_true, Bool.true_and, Option.bind_some, Option.map_some, Option.map_none, decide_eq_true_eq, decide_eq_false_iff_not, ne_eq, Bool.not_eq_true, Bool.not_eq_false, Decidable.not_not, not_true_eq_false, not_false_eq_true, forall_const, false_implies, Bool.true_eq_false, Bool.false_eq_true, reduceCtorEq, decide_true, decide_false, Bool.not_true, Bool.not_false, if_true, if_false, Nat.zero_add, Nat.lt_irrefl, Value.oneCell', gt_iff_lt, Nat.reduceLeDiff, Nat.lt_add_one, vvar_3, vzero_3, vknd_3, vsn_3, vvar_4, vzero_4, vknd_4, vsn_4, vsl_27, vkn_27, vvar_27, vzero_27, vsl_46, vkn_46, vvar_46, vzero_46, vvar_51, vzero_51, vbld_51, vfld_51_0, Int.toNat_zero, Int.reduceToNat]; try simp (disch := omega) only [wrap64]) | (with_reducible refine hK' _ ?_; clear hK' K') | (with_reducible refine hK _ ?_; clear hK K) | (with_reducible first | refine vCall_pure (in51_ac _ _ _ _) ?_ | refine vCall_pure (cont59m_ac _ (by omega) _) ?_ | refine And.intro (And.intro rfl rfl) ?_ | refine And.intro (by omega) ?_) | (with_reducible refine And.intro (fun hg => ?_) (fun hg => ?_) <;> first | simp only [eq_false hg, rsB] | simp only [eq_true hg, rsB] | simp only [hg, rsB]) | (with_reducible first | refine And.intro rfl (And.intro rfl rfl) | refine thenQ_n ?_ | refine thenQ_exit ?_ | refine thenQ_ret ?_ | refine midQ_ret ?_ | refine midQ_exit ?_ | refine blockQ_same ?_ | refine blockQ_ne (by decide) ?_ | refine blockQ_ret ?_ | refine blockQ_n ?_ | refine AW.exit ?_ | refine AW.block ?_ | refine AW.cond_t rfl ?_ | refine AW.cond_f rfl ?_ | refine AW.cond_dec rfl (fun hc => ?_) (fun hc => ?_)) | (with_reducible refine AW.cond rfl (fun hc => ?_) (fun hc => ?_) <;> try simp only [Bool.not_eq_eq_eq_not, Bool.not_true, Bool.not_false, decide_eq_true_eq, decide_eq_false_iff_not] at hc) | (with_reducible first | refine AW.seq ?_ | refine AW.skip ?_ | refine AW.ret ?_ | refine And.intro ?_ ?_) | (with_reducible intro hg; first | simp only [eq_false hg, rsB] | simp only [eq_true hg, rsB]) | (with_reducible refine retQ_drop ?_; simp only [vRes, packRes, vLoad, vPart, lk, cond, Nat.reduceBEq, get_loc, getD_zero, getD_succ, true_and, List.length_cons, List.length_nil, Nat.reduceAdd, Nat.reduceLT, Nat.reduceLeDiff, List.take_succ_cons, List.take_zero, List.drop_succ_cons, List.drop_zero, vvar_3, vzero_3, vknd_3, vsn_3, vvar_4, vzero_4, vknd_4, vsn_4, vsl_27, vkn_27, vvar_27, vzero_27, vsl_46, vkn_46, vvar_46, vzero_46, vvar_51, vzero_51, vbld_51, vfld_51_0]) )
  all_goals first
    | (refine ⟨_, _, FinOk.drop hB (Pl.ids (by (repeat' (first | exact Pl.v _ | exact Pl.junk | exact Pl.rd rfl _ | exact pl_nil | refine pl_cons ?_ ?_ | refine Pl.agg ?_ | refine Pl.tup ?_ | refine Pl.rp ?_ | refine Pl.fn ?_)); (first | done | fail))), ?_, rfl⟩
       refine v_bool ?_
       simp only [Bool.false_eq_true, false_iff]
       intro h
       have h1 := h.2.2 y (by omega)
       have h2 := h1.1
       unfold width at h2
       first | omega | exact absurd h1.2 (by assumption))
    | (refine ⟨y + 1, ⟨by omega, fun j hj => ?_⟩, by omega, (Weak.slots (by repeat' first | exact trivial | exact ⟨rfl, trivial⟩ | refine ⟨rfl, ?_⟩))⟩
       by_cases e : j = y
       · subst e
         refine ⟨by unfold width; omega, by assumption⟩
       · exact hY j (by omega))
    | (refine ⟨_, _, FinOk.drop hB (Pl.ids (by (repeat' (first | exact Pl.v _ | exact Pl.junk | exact Pl.rd rfl _ | exact pl_nil | refine pl_cons ?_ ?_ | refine Pl.agg ?_ | refine Pl.tup ?_ | refine Pl.rp ?_ | refine Pl.fn ?_)); (first | done | fail))), ?_, rfl⟩
       refine v_bool ?_
       simp only [true_iff]
       exact ⟨by omega, by unfold width; omega, fun j hj => hY j (by omega)⟩)
/-- The rows of parts. -/
def rowsP (P : List ByteArray) : Mz := P.map fun p => rowR p.data.toList
theorem rowsP_len (P : List ByteArray) : (rowsP P).length = P.length := by simp [rowsP]
theorem rowsP_take {P : List ByteArray} {i : Nat} (h : i < P.length) : rowsP (P.take (i + 1)) = rowsP (P.take i) ++ [rowR (P.getD i ByteArray.empty).data.toList] := by
  have e : P.take (i + 1) = P.take i ++ [P.getD i ByteArray.empty] := by rw [List.take_add_one, List.getElem?_eq_getElem h]; simp [List.getD, h]
  rw [e]; simp [rowsP]
theorem rowR_len (l : List UInt8) : (rowR l).length = l.length := by simp [rowR]
theorem rowR_snoc (l : List UInt8) (c : UInt8) : rowR (l ++ [c]) = rowR l ++ [convB c] := by simp [rowR]
theorem rowsP_get {P : List ByteArray} {i : Nat} (h : i < P.length) : (rowsP P).getD i [] = rowR (P.getD i ByteArray.empty).data.toList := by simp [rowsP, List.getD, h]
/-- The first i parts bear letters of mazes only. -/
def GoodP (P : List ByteArray) (i : Nat) : Prop := ∀ k, k < i → ∀ c ∈ (P.getD k ByteArray.empty).data.toList, GoodB c
theorem mzR_P (s : ByteArray) : mzR s = rowsP (ptsS 47 s) := by
  unfold mzR rowsR rowsP ptsS
  rw [List.map_map]
  exact List.map_congr_left fun l _ => rfl
theorem goodS_P (s : ByteArray) : GoodS s ↔ GoodP (ptsS 47 s) (ptsS 47 s).length := by
  have hl : (ptsS 47 s).length = (pts 47 s.data.toList).length := by simp [ptsS]
  constructor
  · intro h k hk c hc
    have hk' : k < (pts 47 s.data.toList).length := by omega
    have e : ((ptsS 47 s).getD k ByteArray.empty).data.toList = (pts 47 s.data.toList)[k] := by simp [ptsS, List.getD, hk']
    rw [e] at hc
    exact h _ (List.getElem_mem hk') c hc
  · intro h p hp c hc
    obtain ⟨k, hk, ek⟩ := List.mem_iff_getElem.1 hp
    refine h k (by omega) c ?_
    have e : ((ptsS 47 s).getD k ByteArray.empty).data.toList = (pts 47 s.data.toList)[k] := by simp [ptsS, List.getD, hk]
    rw [e, ek]; exact hc
theorem rdm_some {s : ByteArray} (h1 : GoodP (ptsS 47 s) (ptsS 47 s).length) (h2 : MzOk (rowsP (ptsS 47 s))) : rdm s = some (rowsP (ptsS 47 s)) := by
  unfold rdm
  rw [mzR_P, if_pos ⟨(goodS_P s).2 h1, h2⟩]
theorem rdm_none {s : ByteArray} (h : GoodP (ptsS 47 s) (ptsS 47 s).length → ¬ MzOk (rowsP (ptsS 47 s))) : rdm s = none := by
  unfold rdm
  rw [mzR_P, if_neg]
  rintro ⟨h1, h2⟩
  exact h ((goodS_P s).1 h1) h2
def RmPost (o : Option Mz) (H : List ABox) (r : AVal) (H' : List ABox) : Prop := (∃ m, o = some m ∧ r = .tup [.agg [.sl 1 (H.length + m.length) 0 m.length], .v (.bool (true))] ∧ H' = H ++ (Eng.rowsB m ++ [.row false (.own .i64) (refs H.length m)])) ∨ (o = none ∧ r = .tup [.agg [.v (.slice none 0 0)], .v (.bool (false))] ∧ H' = H)
theorem lent_rm {G H : List ABox} {xs : Mz} {a b c : ABox} {k : Nat} (hH : G ++ Eng.rowsB xs = H) (hk : k = H.length + 3) : LentV (H ++ [a, b, c, .row false (.own .i64) (refs G.length xs)]) (.sl 1 k 0 xs.length) (.rd (.sli .i64) (xs)) := by
  subst hH; subst hk
  refine LentV.refs (pre := []) (post := []) (ro := false) (g := G.length) (by rw [List.getElem?_append_right (by omega)]; simp) (fun i hi => ?_) rfl
  rw [List.append_assoc, List.getElem?_append_right (by omega), Nat.add_sub_cancel_left, List.getElem?_append_left (by rw [rowsB_len]; exact hi), rowsB_get hi]
noncomputable def rm0 (P : List ByteArray) (H : List ABox) : St := (⟨60, [(2, .ptr 1 (H.length + 0) 0 0), (4, .ptr 1 (H.length + 1) 0 0), (12, .sl 1 (H.length + 2) 0 (P.length)), (13, .v (.int .i64 ((P.length : Int)))), (14, .v (.int .i64 (((0 : Nat) : Int))))], H, [.box false [.v (.slice none 0 0)], .box false [.v (.slice none 0 0)], .row false .str P]⟩ : St)
noncomputable def rmI (P : List ByteArray) (H : List ABox) (os : List (Option (Nat × Nat))) (i : Nat) : St := (⟨60, [(2, .ptr 1 (H.length + 0) 0 0), (4, .ptr 1 (H.length + 1) 0 0), (12, .sl 1 (H.length + 2) 0 (P.length)), (13, .v (.int .i64 ((P.length : Int)))), (14, .v (.int .i64 ((i : Int))))], H, [.box false [.v (.slice none 0 0)], .box false [.sl 1 (H.length + 3) 0 i], .row false .str P, .row false (.own .i64) os]⟩ : St)
noncomputable def rmG (P : List ByteArray) (H : List ABox) (os : List (Option (Nat × Nat))) (x : List Int) (i : Nat) : St := (⟨60, [(2, .ptr 1 (H.length + 1) 0 0), (4, .ptr 1 (H.length + 2) 0 0), (12, .sl 1 (H.length + 3) 0 (P.length)), (13, .v (.int .i64 ((P.length : Int)))), (14, .v (.int .i64 ((i : Int))))], H, [.row false (.int .i64) x, .box false [.v (.slice none 0 0)], .box false [.sl 1 (H.length + 4) 0 i], .row false .str P, .row false (.own .i64) os]⟩ : St)
noncomputable def rmA (P : List ByteArray) (H : List ABox) (p : ByteArray) (x : List Int) (j : Nat) : St := (⟨60, [(2, .ptr 1 (H.length + 0) 0 0), (4, .ptr 1 (H.length + 1) 0 0), (6, .v (.string (p))), (7, .sl 1 (H.length + 3) 0 (j)), (12, .sl 1 (H.length + 2) 0 (P.length)), (13, .v (.int .i64 ((P.length : Int)))), (14, .v (.int .i64 (((0 : Nat) : Int)))), (20, .v (.int .i64 ((p.size : Int)))), (21, .v (.int .i64 ((j : Int))))], H, [.box false [.v (.slice none 0 0)], .box false [.v (.slice none 0 0)], .row false .str P, .row false (.int .i64) x]⟩ : St)
noncomputable def rmB (P : List ByteArray) (H : List ABox) (os : List (Option (Nat × Nat))) (i : Nat) (p : ByteArray) (x : List Int) (j : Nat) : St := (⟨60, [(2, .ptr 1 (H.length + 0) 0 0), (4, .ptr 1 (H.length + 1) 0 0), (6, .v (.string (p))), (7, .sl 1 (H.length + 4) 0 (j)), (12, .sl 1 (H.length + 2) 0 (P.length)), (13, .v (.int .i64 ((P.length : Int)))), (14, .v (.int .i64 ((i : Int)))), (20, .v (.int .i64 ((p.size : Int)))), (21, .v (.int .i64 ((j : Int))))], H, [.box false [.v (.slice none 0 0)], .box false [.sl 1 (H.length + 3) 0 i], .row false .str P, .row false (.own .i64) os, .row false (.int .i64) x]⟩ : St)
theorem read40_ac (s : ByteArray) (hs : s.size ≤ 1048576) {G : List ABox} (hm : HasMax G) : AC Tryd.prog 40 [.v (.string (s))] G (RmPost (rdm s) G) := by
  have hpl := ptsS_len 47 s
  have hps := ptsS_size 47 s
  have hp0 : 0 < (ptsS 47 s).length := by
    unfold ptsS
    rw [List.length_map]
    exact List.length_pos_iff.2 (pts_ne 47 _)
  have hr1 := rdm_some (s := s)
  have hr2 := rdm_none (s := s)
  have hc := fun {H : List ABox} (hm : HasMax H) => split_ac s hs 47 hm
  generalize ptsS 47 s = P at hpl hps hp0 hr1 hr2 hc
  refine AC.enter envOk2 Tryd.func40 rfl (by decide) Tryd.ntmps40 Tryd.results40 (by simp) fun hB => ?_
  have hBG := hB
  repeat' (first | (with_reducible first | refine AW.sreg envOk2 fun K hK => ?_ | refine AW.region envOk2 fun K hK => ?_ | refine vcL_nil ?_) | (with_reducible (first | refine vcL_cons fun K' hK' => ?_); simp only [isC, Bool.false_or, Bool.or_true, vAppend, elems, ↓reduceDIte, List.take_length, Nat.le_refl, List.drop_zero, vGuard, undef, Bool.not_eq_eq_eq_not, dstOk, vcOp, vcF, isPure, putS, vcCall, St.ev, St.put, lk, AVal.ofVal, initS, Nat.reduceLT, true_and, and_true, vBin, vUn, vPick, vConv, vPart, vLoad, vStore, vIdxA, vIdx, vFldA, vLen, vAlloc, vBuild, vBuildSl, partsA, fillA, decAll, AVal.flat, AVal.cell, cellsOk, setRange, ETy.enc, ETy.dec, ETy.sz, ETy.d, cond, Nat.reduceBEq, Nat.reduceAdd, Int.toNat_natCast, List.length_set, List.length_append, List.length_replicate, List.length_take, Nat.reduceSub, Nat.reduceEqDiff, get_loc, setBox_loc, next_eq, List.length_cons, List.length_nil, List.map_cons, List.map_nil, List.append_nil, List.nil_append, List.cons_append, List.set_cons_zero, List.set_cons_succ, getD_zero, getD_succ, List.getElem?_cons_succ, List.getElem?_cons_zero, List.take_succ_cons, List.take_zero, List.drop_succ_cons, List.all_cons, List.all_nil, Bool.and_true, Bool.true_and, Option.bind_some, Option.map_some, Option.map_none, decide_eq_true_eq, decide_eq_false_iff_not, ne_eq, Bool.not_eq_true, Bool.not_eq_false, Decidable.not_not, not_true_eq_false, not_false_eq_true, forall_const, false_implies, Bool.true_eq_false, Bool.false_eq_true, reduceCtorEq, decide_true, decide_false, Bool.not_true, Bool.not_false, if_true, if_false, Nat.zero_add, Nat.lt_irrefl, Value.oneCell', gt_iff_lt, Nat.reduceLeDiff, Nat.lt_add_one, vSealSl, wvar_1, wzero_1, wvar_2, wzero_2, wknd_2, wsn_2, wvar_3, wzero_3, wknd_3, wsn_3, wvar_4, wzero_4, wknd_4, wsn_4, wvar_5, wzero_5, wknd_5, wsn_5, wvar_9, wzero_9, wknd_9, wsn_9, wsl_27, wkn_27, wvar_27, wzero_27, wsl_46, wkn_46, wvar_46, wzero_46, wvar_51, wzero_51, wbld_51, wsl_84, wkn_84, wvar_84, wzero_84, wfld_51_0]; try simp (disch := omega) only [wrap64]) | (with_reducible refine hK' _ ?_; clear hK' K') | (with_reducible refine hK _ ?_; clear hK K) | ((with_reducible show vCall _ (AVal.fn 79 _) _ _ _); refine vCall_newE (hc (hm.app _)) (by simp only [List.length_append, List.length_cons, List.length_nil, Nat.reduceAdd]; rfl) ?_) | (with_reducible first | refine And.intro (And.intro rfl rfl) ?_ | refine And.intro (by omega) ?_) | (with_reducible refine And.intro (fun hg => ?_) (fun hg => ?_) <;> first | simp only [eq_false hg, rsB] | simp only [eq_true hg, rsB] | simp only [hg, rsB]) | (with_reducible first | refine And.intro rfl (And.intro rfl rfl) | refine thenQ_n ?_ | refine thenQ_exit ?_ | refine thenQ_ret ?_ | refine midQ_ret ?_ | refine midQ_exit ?_ | refine blockQ_same ?_ | refine blockQ_ne (by decide) ?_ | refine blockQ_ret ?_ | refine blockQ_n ?_ | refine AW.exit ?_ | refine AW.block ?_ | refine AW.cond_t rfl ?_ | refine AW.cond_f rfl ?_ | refine AW.cond_dec rfl (fun hc => ?_) (fun hc => ?_)) | (with_reducible refine AW.cond rfl (fun hc => ?_) (fun hc => ?_) <;> try simp only [Bool.not_eq_eq_eq_not, Bool.not_true, Bool.not_false, decide_eq_true_eq, decide_eq_false_iff_not] at hc) | (with_reducible first | refine AW.seq ?_ | refine AW.skip ?_ | refine AW.ret ?_ | refine And.intro ?_ ?_) | (with_reducible intro hg; first | simp only [eq_false hg, rsB] | simp only [eq_true hg, rsB]) | (with_reducible refine retQ_drop ?_; simp only [vRes, packRes, vLoad, vPart, lk, cond, Nat.reduceBEq, get_loc, getD_zero, getD_succ, true_and, List.length_cons, List.length_nil, Nat.reduceAdd, Nat.reduceLT, Nat.reduceLeDiff, List.take_succ_cons, List.take_zero, List.drop_succ_cons, List.drop_zero, wvar_1, wzero_1, wvar_2, wzero_2, wknd_2, wsn_2, wvar_3, wzero_3, wknd_3, wsn_3, wvar_4, wzero_4, wknd_4, wsn_4, wvar_5, wzero_5, wknd_5, wsn_5, wvar_9, wzero_9, wknd_9, wsn_9, wsl_27, wkn_27, wvar_27, wzero_27, wsl_46, wkn_46, wvar_46, wzero_46, wvar_51, wzero_51, wbld_51, wsl_84, wkn_84, wvar_84, wzero_84, wfld_51_0]) )
  refine AW.loop (fun i : Nat => if i = 0 then rm0 P G else rmI P (G ++ Eng.rowsB (rowsP (P.take i))) (refs G.length (rowsP (P.take i))) i) (fun i => i ≤ P.length ∧ GoodP P i) (fun i => P.length - i) 0 ⟨Nat.zero_le _, fun k hk => absurd hk (by omega)⟩ ?_ ?_
  · rw [if_pos rfl]
    unfold rm0
    exact (Weak.sel [0, 1, 2] hB (by decide) (by (repeat' (first | exact trivial | exact RenB.plRow rfl | exact RenB.dead _ | exact RenB.ownKeep (by assumption) | exact RenB.ownSnoc (by assumption) rfl | exact RenB.ownAt (by assumption) (by assumption) rfl | exact RenB.own2 (by assumption) rfl rfl | exact RenB.map _ _ | exact RenB.iter rfl | refine And.intro ?_ ?_ | (refine RenB.plBox ?_; (repeat' (first | exact Pl.v _ | exact Pl.junk | exact Pl.rd rfl _ | exact pl_nil | refine pl_cons ?_ ?_ | refine Pl.agg ?_ | refine Pl.tup ?_ | refine Pl.rp ?_ | refine Pl.fn ?_)); (first | done | fail)) | refine RenB.of ?_ | exact RenV.ptr rfl | exact RenV.sl rfl | exact RenV.mp rfl | exact RenV.it rfl | exact RenV.low (IdsLt.mp (by assumption)) | (refine RenV.pl ?_; (repeat' (first | exact Pl.v _ | exact Pl.junk | exact Pl.rd rfl _ | exact pl_nil | refine pl_cons ?_ ?_ | refine Pl.agg ?_ | refine Pl.tup ?_ | refine Pl.rp ?_ | refine Pl.fn ?_)); (first | done | fail)) | refine RenV.aggL ?_ | refine RenV.fnL ?_ | exact Nat.lt_of_sub_pos (by decide) | (simp; (first | done | fail)))); (first | done | fail)) (by (repeat' (first | exact trivial | exact RenV.ptr rfl | exact RenV.sl rfl | exact RenV.mp rfl | exact RenV.it rfl | exact RenV.low (IdsLt.mp (by assumption)) | exact RenV.low (.v _) | exact RenV.low (IdsLt.ptr (by assumption)) | (refine RenV.pl ?_; (repeat' (first | exact Pl.v _ | exact Pl.junk | exact Pl.rd rfl _ | exact pl_nil | refine pl_cons ?_ ?_ | refine Pl.agg ?_ | refine Pl.tup ?_ | refine Pl.rp ?_ | refine Pl.fn ?_)); (first | done | fail)) | refine RenV.fnL ?_ | refine RenV.aggL ?_ | refine And.intro ?_ ?_)); (first | done | fail)))
  intro i ⟨hi, hI⟩
  have hps' := hps i
  have htl : (rowsP (P.take i)).length = i := by rw [rowsP_len, List.length_take]; omega
  obtain ⟨p, hpd⟩ : ∃ p, P.getD i ByteArray.empty = p := ⟨_, rfl⟩
  rw [hpd] at hps'
  by_cases h0 : i = 0
  · subst h0
    rw [if_pos rfl]
    unfold rm0
    have hlt0 : OwnLt G.length [] := fun i hi => by simp at hi
    repeat' (first | (with_reducible first | refine AW.sreg envOk2 fun K hK => ?_ | refine AW.region envOk2 fun K hK => ?_ | refine vcL_nil ?_) | (with_reducible (first | refine vcL_cons fun K' hK' => ?_); simp only [isC, Bool.false_or, Bool.or_true, vAppend, elems, ↓reduceDIte, List.take_length, Nat.le_refl, List.drop_zero, vGuard, undef, Bool.not_eq_eq_eq_not, dstOk, vcOp, vcF, isPure, putS, vcCall, St.ev, St.put, lk, AVal.ofVal, initS, Nat.reduceLT, true_and, and_true, vBin, vUn, vPick, vConv, vPart, vLoad, vStore, vIdxA, vIdx, vFldA, vLen, vAlloc, vBuild, vBuildSl, partsA, fillA, decAll, AVal.flat, AVal.cell, cellsOk, setRange, ETy.enc, ETy.dec, ETy.sz, ETy.d, cond, Nat.reduceBEq, Nat.reduceAdd, Int.toNat_natCast, List.length_set, List.length_append, List.length_replicate, List.length_take, Nat.reduceSub, Nat.reduceEqDiff, get_loc, setBox_loc, next_eq, List.length_cons, List.length_nil, List.map_cons, List.map_nil, List.append_nil, List.nil_append, List.cons_append, List.set_cons_zero, List.set_cons_succ, getD_zero, getD_succ, List.getElem?_cons_succ, List.getElem?_cons_zero, List.take_succ_cons, List.take_zero, List.drop_succ_cons, List.all_cons, List.all_nil, Bool.and_true, Bool.true_and, Option.bind_some, Option.map_some, Option.map_none, decide_eq_true_eq, decide_eq_false_iff_not, ne_eq, Bool.not_eq_true, Bool.not_eq_false, Decidable.not_not, not_true_eq_false, not_false_eq_true, forall_const, false_implies, Bool.true_eq_false, Bool.false_eq_true, reduceCtorEq, decide_true, decide_false, Bool.not_true, Bool.not_false, if_true, if_false, Nat.zero_add, Nat.lt_irrefl, Value.oneCell', gt_iff_lt, Nat.reduceLeDiff, Nat.lt_add_one, vSealSl, wvar_1, wzero_1, wvar_2, wzero_2, wknd_2, wsn_2, wvar_3, wzero_3, wknd_3, wsn_3, wvar_4, wzero_4, wknd_4, wsn_4, wvar_5, wzero_5, wknd_5, wsn_5, wvar_9, wzero_9, wknd_9, wsn_9, wsl_27, wkn_27, wvar_27, wzero_27, wsl_46, wkn_46, wvar_46, wzero_46, wvar_51, wzero_51, wbld_51, wsl_84, wkn_84, wvar_84, wzero_84, wfld_51_0, hpd]; try simp (disch := omega) only [wrap64]) | (with_reducible refine hK' _ ?_; clear hK' K') | (with_reducible refine hK _ ?_; clear hK K) | (with_reducible first | refine And.intro (And.intro rfl rfl) ?_ | refine And.intro (by omega) ?_) | (with_reducible refine And.intro (fun hg => ?_) (fun hg => ?_) <;> first | simp only [eq_false hg, rsB] | simp only [eq_true hg, rsB] | simp only [hg, rsB]) | (with_reducible first | refine And.intro rfl (And.intro rfl rfl) | refine thenQ_n ?_ | refine thenQ_exit ?_ | refine thenQ_ret ?_ | refine midQ_ret ?_ | refine midQ_exit ?_ | refine blockQ_same ?_ | refine blockQ_ne (by decide) ?_ | refine blockQ_ret ?_ | refine blockQ_n ?_ | refine AW.exit ?_ | refine AW.block ?_ | refine AW.cond_t rfl ?_ | refine AW.cond_f rfl ?_ | refine AW.cond_dec rfl (fun hc => ?_) (fun hc => ?_)) | (with_reducible refine AW.cond rfl (fun hc => ?_) (fun hc => ?_) <;> try simp only [Bool.not_eq_eq_eq_not, Bool.not_true, Bool.not_false, decide_eq_true_eq, decide_eq_false_iff_not] at hc) | (with_reducible first | refine AW.seq ?_ | refine AW.skip ?_ | refine AW.ret ?_ | refine And.intro ?_ ?_) | (with_reducible intro hg; first | simp only [eq_false hg, rsB] | simp only [eq_true hg, rsB]) | (with_reducible refine retQ_drop ?_; simp only [vRes, packRes, vLoad, vPart, lk, cond, Nat.reduceBEq, get_loc, getD_zero, getD_succ, true_and, List.length_cons, List.length_nil, Nat.reduceAdd, Nat.reduceLT, Nat.reduceLeDiff, List.take_succ_cons, List.take_zero, List.drop_succ_cons, List.drop_zero, wvar_1, wzero_1, wvar_2, wzero_2, wknd_2, wsn_2, wvar_3, wzero_3, wknd_3, wsn_3, wvar_4, wzero_4, wknd_4, wsn_4, wvar_5, wzero_5, wknd_5, wsn_5, wvar_9, wzero_9, wknd_9, wsn_9, wsl_27, wkn_27, wvar_27, wzero_27, wsl_46, wkn_46, wvar_46, wzero_46, wvar_51, wzero_51, wbld_51, wsl_84, wkn_84, wvar_84, wzero_84, wfld_51_0]) )
    all_goals first
      | (exfalso; omega)
      | skip
    refine AW.loop (fun j : Nat => rmA P G p (rowR (p.data.toList.take j)) j) (fun j => j ≤ p.size ∧ ∀ c ∈ p.data.toList.take j, GoodB c) (fun j => p.size - j) 0 ⟨Nat.zero_le _, fun c hc => by simp at hc⟩ ?_ ?_
    · unfold rmA
      rw [List.take_zero, show rowR [] = [] from rfl]
      exact (Weak.sel [0, 1, 2, 3] hB (by decide) (by (repeat' (first | exact trivial | exact RenB.plRow rfl | exact RenB.dead _ | exact RenB.ownKeep (by assumption) | exact RenB.ownSnoc (by assumption) rfl | exact RenB.ownAt (by assumption) (by assumption) rfl | exact RenB.own2 (by assumption) rfl rfl | exact RenB.map _ _ | exact RenB.iter rfl | refine And.intro ?_ ?_ | (refine RenB.plBox ?_; (repeat' (first | exact Pl.v _ | exact Pl.junk | exact Pl.rd rfl _ | exact pl_nil | refine pl_cons ?_ ?_ | refine Pl.agg ?_ | refine Pl.tup ?_ | refine Pl.rp ?_ | refine Pl.fn ?_)); (first | done | fail)) | refine RenB.of ?_ | exact RenV.ptr rfl | exact RenV.sl rfl | exact RenV.mp rfl | exact RenV.it rfl | exact RenV.low (IdsLt.mp (by assumption)) | (refine RenV.pl ?_; (repeat' (first | exact Pl.v _ | exact Pl.junk | exact Pl.rd rfl _ | exact pl_nil | refine pl_cons ?_ ?_ | refine Pl.agg ?_ | refine Pl.tup ?_ | refine Pl.rp ?_ | refine Pl.fn ?_)); (first | done | fail)) | refine RenV.aggL ?_ | refine RenV.fnL ?_ | exact Nat.lt_of_sub_pos (by decide) | (simp; (first | done | fail)))); (first | done | fail)) (by (repeat' (first | exact trivial | exact RenV.ptr rfl | exact RenV.sl rfl | exact RenV.mp rfl | exact RenV.it rfl | exact RenV.low (IdsLt.mp (by assumption)) | exact RenV.low (.v _) | exact RenV.low (IdsLt.ptr (by assumption)) | (refine RenV.pl ?_; (repeat' (first | exact Pl.v _ | exact Pl.junk | exact Pl.rd rfl _ | exact pl_nil | refine pl_cons ?_ ?_ | refine Pl.agg ?_ | refine Pl.tup ?_ | refine Pl.rp ?_ | refine Pl.fn ?_)); (first | done | fail)) | refine RenV.fnL ?_ | refine RenV.aggL ?_ | refine And.intro ?_ ?_)); (first | done | fail)))
    intro j ⟨hj, hJ⟩
    unfold rmA
    have hxl : (rowR (p.data.toList.take j)).length = j := by rw [rowR_len, List.length_take, data_len]; omega
    have hxt : (rowR (p.data.toList.take j)).take j = rowR (p.data.toList.take j) := List.take_of_length_le (by omega)
    by_cases hjn : j < p.size
    · obtain ⟨c, hb1, hb2⟩ := byte_list hjn
      have hcl := c.toNat_lt
      have hcm : c ∈ p.data.toList := by
        have : c ∈ p.data.toList.take (j + 1) := by rw [hb2]; simp
        exact List.mem_of_mem_take this
      have hnx : GoodB c → ∀ d ∈ p.data.toList.take (j + 1), GoodB d := fun hg d hd => by
        rw [hb2, List.mem_append] at hd
        rcases hd with h | h
        · exact hJ d h
        · rw [List.mem_singleton.1 h]; exact hg
      have hrs : rowR (p.data.toList.take (j + 1)) = rowR (p.data.toList.take j) ++ [convB c] := by rw [hb2, rowR_snoc]
      by_cases h35 : byteAt p j = 35
      · have hc35 : c = 35 := UInt8.toNat_inj.1 (by show c.toNat = 35; omega)
        have hcv : convB c = 0 := if_pos hc35
        rw [hcv] at hrs
        have hgd : GoodB c := .inl hc35
        repeat' (first | (with_reducible first | refine AW.sreg envOk2 fun K hK => ?_ | refine AW.region envOk2 fun K hK => ?_ | refine vcL_nil ?_) | (with_reducible (first | refine vcL_cons fun K' hK' => ?_); simp only [isC, Bool.false_or, Bool.or_true, vAppend, elems, ↓reduceDIte, List.take_length, Nat.le_refl, List.drop_zero, vGuard, undef, Bool.not_eq_eq_eq_not, dstOk, vcOp, vcF, isPure, putS, vcCall, St.ev, St.put, lk, AVal.ofVal, initS, Nat.reduceLT, true_and, and_true, vBin, vUn, vPick, vConv, vPart, vLoad, vStore, vIdxA, vIdx, vFldA, vLen, vAlloc, vBuild, vBuildSl, partsA, fillA, decAll, AVal.flat, AVal.cell, cellsOk, setRange, ETy.enc, ETy.dec, ETy.sz, ETy.d, cond, Nat.reduceBEq, Nat.reduceAdd, Int.toNat_natCast, List.length_set, List.length_append, List.length_replicate, List.length_take, Nat.reduceSub, Nat.reduceEqDiff, get_loc, setBox_loc, next_eq, List.length_cons, List.length_nil, List.map_cons, List.map_nil, List.append_nil, List.nil_append, List.cons_append, List.set_cons_zero, List.set_cons_succ, getD_zero, getD_succ, List.getElem?_cons_succ, List.getElem?_cons_zero, List.take_succ_cons, List.take_zero, List.drop_succ_cons, List.all_cons, List.all_nil, Bool.and_true, Bool.true_and, Option.bind_some, Option.map_some, Option.map_none, decide_eq_true_eq, decide_eq_false_iff_not, ne_eq, Bool.not_eq_true, Bool.not_eq_false, Decidable.not_not, not_true_eq_false, not_false_eq_true, forall_const, false_implies, Bool.true_eq_false, Bool.false_eq_true, reduceCtorEq, decide_true, decide_false, Bool.not_true, Bool.not_false, if_true, if_false, Nat.zero_add, Nat.lt_irrefl, Value.oneCell', gt_iff_lt, Nat.reduceLeDiff, Nat.lt_add_one, vSealSl, wvar_1, wzero_1, wvar_2, wzero_2, wknd_2, wsn_2, wvar_3, wzero_3, wknd_3, wsn_3, wvar_4, wzero_4, wknd_4, wsn_4, wvar_5, wzero_5, wknd_5, wsn_5, wvar_9, wzero_9, wknd_9, wsn_9, wsl_27, wkn_27, wvar_27, wzero_27, wsl_46, wkn_46, wvar_46, wzero_46, wvar_51, wzero_51, wbld_51, wsl_84, wkn_84, wvar_84, wzero_84, wfld_51_0, hxl, hxt]; try simp (disch := omega) only [wrap64]) | (with_reducible refine hK' _ ?_; clear hK' K') | (with_reducible refine hK _ ?_; clear hK K) | (with_reducible first | refine And.intro (And.intro rfl rfl) ?_ | refine And.intro (by omega) ?_) | (with_reducible refine And.intro (fun hg => ?_) (fun hg => ?_) <;> first | simp only [eq_false hg, rsB] | simp only [eq_true hg, rsB] | simp only [hg, rsB]) | (with_reducible first | refine And.intro rfl (And.intro rfl rfl) | refine thenQ_n ?_ | refine thenQ_exit ?_ | refine thenQ_ret ?_ | refine midQ_ret ?_ | refine midQ_exit ?_ | refine blockQ_same ?_ | refine blockQ_ne (by decide) ?_ | refine blockQ_ret ?_ | refine blockQ_n ?_ | refine AW.exit ?_ | refine AW.block ?_ | refine AW.cond_t rfl ?_ | refine AW.cond_f rfl ?_ | refine AW.cond_dec rfl (fun hc => ?_) (fun hc => ?_)) | (with_reducible refine AW.cond rfl (fun hc => ?_) (fun hc => ?_) <;> try simp only [Bool.not_eq_eq_eq_not, Bool.not_true, Bool.not_false, decide_eq_true_eq, decide_eq_false_iff_not] at hc) | (with_reducible first | refine AW.seq ?_ | refine AW.skip ?_ | refine AW.ret ?_ | refine And.intro ?_ ?_) | (with_reducible intro hg; first | simp only [eq_false hg, rsB] | simp only [eq_true hg, rsB]) | (with_reducible refine retQ_drop ?_; simp only [vRes, packRes, vLoad, vPart, lk, cond, Nat.reduceBEq, get_loc, getD_zero, getD_succ, true_and, List.length_cons, List.length_nil, Nat.reduceAdd, Nat.reduceLT, Nat.reduceLeDiff, List.take_succ_cons, List.take_zero, List.drop_succ_cons, List.drop_zero, wvar_1, wzero_1, wvar_2, wzero_2, wknd_2, wsn_2, wvar_3, wzero_3, wknd_3, wsn_3, wvar_4, wzero_4, wknd_4, wsn_4, wvar_5, wzero_5, wknd_5, wsn_5, wvar_9, wzero_9, wknd_9, wsn_9, wsl_27, wkn_27, wvar_27, wzero_27, wsl_46, wkn_46, wvar_46, wzero_46, wvar_51, wzero_51, wbld_51, wsl_84, wkn_84, wvar_84, wzero_84, wfld_51_0]) )
        all_goals first
          | (exfalso; omega)
          | skip
        refine ⟨j + 1, ⟨by omega, hnx hgd⟩, by omega, ?_⟩
        rw [hrs]
        exact (Weak.sel [0, 1, 2, 5] hB (by decide) (by (repeat' (first | exact trivial | exact RenB.plRow rfl | exact RenB.dead _ | exact RenB.ownKeep (by assumption) | exact RenB.ownSnoc (by assumption) rfl | exact RenB.ownAt (by assumption) (by assumption) rfl | exact RenB.own2 (by assumption) rfl rfl | exact RenB.map _ _ | exact RenB.iter rfl | refine And.intro ?_ ?_ | (refine RenB.plBox ?_; (repeat' (first | exact Pl.v _ | exact Pl.junk | exact Pl.rd rfl _ | exact pl_nil | refine pl_cons ?_ ?_ | refine Pl.agg ?_ | refine Pl.tup ?_ | refine Pl.rp ?_ | refine Pl.fn ?_)); (first | done | fail)) | refine RenB.of ?_ | exact RenV.ptr rfl | exact RenV.sl rfl | exact RenV.mp rfl | exact RenV.it rfl | exact RenV.low (IdsLt.mp (by assumption)) | (refine RenV.pl ?_; (repeat' (first | exact Pl.v _ | exact Pl.junk | exact Pl.rd rfl _ | exact pl_nil | refine pl_cons ?_ ?_ | refine Pl.agg ?_ | refine Pl.tup ?_ | refine Pl.rp ?_ | refine Pl.fn ?_)); (first | done | fail)) | refine RenV.aggL ?_ | refine RenV.fnL ?_ | exact Nat.lt_of_sub_pos (by decide) | (simp; (first | done | fail)))); (first | done | fail)) (by (repeat' (first | exact trivial | exact RenV.ptr rfl | exact RenV.sl rfl | exact RenV.mp rfl | exact RenV.it rfl | exact RenV.low (IdsLt.mp (by assumption)) | exact RenV.low (.v _) | exact RenV.low (IdsLt.ptr (by assumption)) | (refine RenV.pl ?_; (repeat' (first | exact Pl.v _ | exact Pl.junk | exact Pl.rd rfl _ | exact pl_nil | refine pl_cons ?_ ?_ | refine Pl.agg ?_ | refine Pl.tup ?_ | refine Pl.rp ?_ | refine Pl.fn ?_)); (first | done | fail)) | refine RenV.fnL ?_ | refine RenV.aggL ?_ | refine And.intro ?_ ?_)); (first | done | fail)))
      · have hc35 : ¬ c = 35 := fun e => h35 (by rw [hb1, e]; rfl)
        by_cases hdg : 49 ≤ byteAt p j ∧ byteAt p j ≤ 57
        · have hcv : convB c = byteAt p j - 48 := by rw [hb1]; exact if_neg hc35
          have wu : IntKind.u8.wrap (byteAt p j - 48) = byteAt p j - 48 := wrap8 (by omega)
          rw [hcv] at hrs
          have hgd : GoodB c := .inr ⟨by omega, by omega⟩
          repeat' (first | (with_reducible first | refine AW.sreg envOk2 fun K hK => ?_ | refine AW.region envOk2 fun K hK => ?_ | refine vcL_nil ?_) | (with_reducible (first | refine vcL_cons fun K' hK' => ?_); simp only [isC, Bool.false_or, Bool.or_true, vAppend, elems, ↓reduceDIte, List.take_length, Nat.le_refl, List.drop_zero, vGuard, undef, Bool.not_eq_eq_eq_not, dstOk, vcOp, vcF, isPure, putS, vcCall, St.ev, St.put, lk, AVal.ofVal, initS, Nat.reduceLT, true_and, and_true, vBin, vUn, vPick, vConv, vPart, vLoad, vStore, vIdxA, vIdx, vFldA, vLen, vAlloc, vBuild, vBuildSl, partsA, fillA, decAll, AVal.flat, AVal.cell, cellsOk, setRange, ETy.enc, ETy.dec, ETy.sz, ETy.d, cond, Nat.reduceBEq, Nat.reduceAdd, Int.toNat_natCast, List.length_set, List.length_append, List.length_replicate, List.length_take, Nat.reduceSub, Nat.reduceEqDiff, get_loc, setBox_loc, next_eq, List.length_cons, List.length_nil, List.map_cons, List.map_nil, List.append_nil, List.nil_append, List.cons_append, List.set_cons_zero, List.set_cons_succ, getD_zero, getD_succ, List.getElem?_cons_succ, List.getElem?_cons_zero, List.take_succ_cons, List.take_zero, List.drop_succ_cons, List.all_cons, List.all_nil, Bool.and_true, Bool.true_and, Option.bind_some, Option.map_some, Option.map_none, decide_eq_true_eq, decide_eq_false_iff_not, ne_eq, Bool.not_eq_true, Bool.not_eq_false, Decidable.not_not, not_true_eq_false, not_false_eq_true, forall_const, false_implies, Bool.true_eq_false, Bool.false_eq_true, reduceCtorEq, decide_true, decide_false, Bool.not_true, Bool.not_false, if_true, if_false, Nat.zero_add, Nat.lt_irrefl, Value.oneCell', gt_iff_lt, Nat.reduceLeDiff, Nat.lt_add_one, vSealSl, wvar_1, wzero_1, wvar_2, wzero_2, wknd_2, wsn_2, wvar_3, wzero_3, wknd_3, wsn_3, wvar_4, wzero_4, wknd_4, wsn_4, wvar_5, wzero_5, wknd_5, wsn_5, wvar_9, wzero_9, wknd_9, wsn_9, wsl_27, wkn_27, wvar_27, wzero_27, wsl_46, wkn_46, wvar_46, wzero_46, wvar_51, wzero_51, wbld_51, wsl_84, wkn_84, wvar_84, wzero_84, wfld_51_0, hxl, hxt, wu]; try simp (disch := omega) only [wrap64]) | (with_reducible refine hK' _ ?_; clear hK' K') | (with_reducible refine hK _ ?_; clear hK K) | (with_reducible first | refine And.intro (And.intro rfl rfl) ?_ | refine And.intro (by omega) ?_) | (with_reducible refine And.intro (fun hg => ?_) (fun hg => ?_) <;> first | simp only [eq_false hg, rsB] | simp only [eq_true hg, rsB] | simp only [hg, rsB]) | (with_reducible first | refine And.intro rfl (And.intro rfl rfl) | refine thenQ_n ?_ | refine thenQ_exit ?_ | refine thenQ_ret ?_ | refine midQ_ret ?_ | refine midQ_exit ?_ | refine blockQ_same ?_ | refine blockQ_ne (by decide) ?_ | refine blockQ_ret ?_ | refine blockQ_n ?_ | refine AW.exit ?_ | refine AW.block ?_ | refine AW.cond_t rfl ?_ | refine AW.cond_f rfl ?_ | refine AW.cond_dec rfl (fun hc => ?_) (fun hc => ?_)) | (with_reducible refine AW.cond rfl (fun hc => ?_) (fun hc => ?_) <;> try simp only [Bool.not_eq_eq_eq_not, Bool.not_true, Bool.not_false, decide_eq_true_eq, decide_eq_false_iff_not] at hc) | (with_reducible first | refine AW.seq ?_ | refine AW.skip ?_ | refine AW.ret ?_ | refine And.intro ?_ ?_) | (with_reducible intro hg; first | simp only [eq_false hg, rsB] | simp only [eq_true hg, rsB]) | (with_reducible refine retQ_drop ?_; simp only [vRes, packRes, vLoad, vPart, lk, cond, Nat.reduceBEq, get_loc, getD_zero, getD_succ, true_and, List.length_cons, List.length_nil, Nat.reduceAdd, Nat.reduceLT, Nat.reduceLeDiff, List.take_succ_cons, List.take_zero, List.drop_succ_cons, List.drop_zero, wvar_1, wzero_1, wvar_2, wzero_2, wknd_2, wsn_2, wvar_3, wzero_3, wknd_3, wsn_3, wvar_4, wzero_4, wknd_4, wsn_4, wvar_5, wzero_5, wknd_5, wsn_5, wvar_9, wzero_9, wknd_9, wsn_9, wsl_27, wkn_27, wvar_27, wzero_27, wsl_46, wkn_46, wvar_46, wzero_46, wvar_51, wzero_51, wbld_51, wsl_84, wkn_84, wvar_84, wzero_84, wfld_51_0]) )
          all_goals first
            | (exfalso; omega)
            | skip
          refine ⟨j + 1, ⟨by omega, hnx hgd⟩, by omega, ?_⟩
          rw [hrs]
          exact (Weak.sel [0, 1, 2, 5] hB (by decide) (by (repeat' (first | exact trivial | exact RenB.plRow rfl | exact RenB.dead _ | exact RenB.ownKeep (by assumption) | exact RenB.ownSnoc (by assumption) rfl | exact RenB.ownAt (by assumption) (by assumption) rfl | exact RenB.own2 (by assumption) rfl rfl | exact RenB.map _ _ | exact RenB.iter rfl | refine And.intro ?_ ?_ | (refine RenB.plBox ?_; (repeat' (first | exact Pl.v _ | exact Pl.junk | exact Pl.rd rfl _ | exact pl_nil | refine pl_cons ?_ ?_ | refine Pl.agg ?_ | refine Pl.tup ?_ | refine Pl.rp ?_ | refine Pl.fn ?_)); (first | done | fail)) | refine RenB.of ?_ | exact RenV.ptr rfl | exact RenV.sl rfl | exact RenV.mp rfl | exact RenV.it rfl | exact RenV.low (IdsLt.mp (by assumption)) | (refine RenV.pl ?_; (repeat' (first | exact Pl.v _ | exact Pl.junk | exact Pl.rd rfl _ | exact pl_nil | refine pl_cons ?_ ?_ | refine Pl.agg ?_ | refine Pl.tup ?_ | refine Pl.rp ?_ | refine Pl.fn ?_)); (first | done | fail)) | refine RenV.aggL ?_ | refine RenV.fnL ?_ | exact Nat.lt_of_sub_pos (by decide) | (simp; (first | done | fail)))); (first | done | fail)) (by (repeat' (first | exact trivial | exact RenV.ptr rfl | exact RenV.sl rfl | exact RenV.mp rfl | exact RenV.it rfl | exact RenV.low (IdsLt.mp (by assumption)) | exact RenV.low (.v _) | exact RenV.low (IdsLt.ptr (by assumption)) | (refine RenV.pl ?_; (repeat' (first | exact Pl.v _ | exact Pl.junk | exact Pl.rd rfl _ | exact pl_nil | refine pl_cons ?_ ?_ | refine Pl.agg ?_ | refine Pl.tup ?_ | refine Pl.rp ?_ | refine Pl.fn ?_)); (first | done | fail)) | refine RenV.fnL ?_ | refine RenV.aggL ?_ | refine And.intro ?_ ?_)); (first | done | fail)))
        · have hbad : GoodP P P.length → ¬ MzOk (rowsP P) := fun h _ => by
            have := h 0 (by omega) c (by rw [hpd]; exact hcm)
            rcases this with e | e
            · exact hc35 e
            · omega
          repeat' (first | (with_reducible first | refine AW.sreg envOk2 fun K hK => ?_ | refine AW.region envOk2 fun K hK => ?_ | refine vcL_nil ?_) | (with_reducible (first | refine vcL_cons fun K' hK' => ?_); simp only [isC, Bool.false_or, Bool.or_true, vAppend, elems, ↓reduceDIte, List.take_length, Nat.le_refl, List.drop_zero, vGuard, undef, Bool.not_eq_eq_eq_not, dstOk, vcOp, vcF, isPure, putS, vcCall, St.ev, St.put, lk, AVal.ofVal, initS, Nat.reduceLT, true_and, and_true, vBin, vUn, vPick, vConv, vPart, vLoad, vStore, vIdxA, vIdx, vFldA, vLen, vAlloc, vBuild, vBuildSl, partsA, fillA, decAll, AVal.flat, AVal.cell, cellsOk, setRange, ETy.enc, ETy.dec, ETy.sz, ETy.d, cond, Nat.reduceBEq, Nat.reduceAdd, Int.toNat_natCast, List.length_set, List.length_append, List.length_replicate, List.length_take, Nat.reduceSub, Nat.reduceEqDiff, get_loc, setBox_loc, next_eq, List.length_cons, List.length_nil, List.map_cons, List.map_nil, List.append_nil, List.nil_append, List.cons_append, List.set_cons_zero, List.set_cons_succ, getD_zero, getD_succ, List.getElem?_cons_succ, List.getElem?_cons_zero, List.take_succ_cons, List.take_zero, List.drop_succ_cons, List.all_cons, List.all_nil, Bool.and_true, Bool.true_and, Option.bind_some, Option.map_some, Option.map_none, decide_eq_true_eq, decide_eq_false_iff_not, ne_eq, Bool.not_eq_true, Bool.not_eq_false, Decidable.not_not, not_true_eq_false, not_false_eq_true, forall_const, false_implies, Bool.true_eq_false, Bool.false_eq_true, reduceCtorEq, decide_true, decide_false, Bool.not_true, Bool.not_false, if_true, if_false, Nat.zero_add, Nat.lt_irrefl, Value.oneCell', gt_iff_lt, Nat.reduceLeDiff, Nat.lt_add_one, vSealSl, wvar_1, wzero_1, wvar_2, wzero_2, wknd_2, wsn_2, wvar_3, wzero_3, wknd_3, wsn_3, wvar_4, wzero_4, wknd_4, wsn_4, wvar_5, wzero_5, wknd_5, wsn_5, wvar_9, wzero_9, wknd_9, wsn_9, wsl_27, wkn_27, wvar_27, wzero_27, wsl_46, wkn_46, wvar_46, wzero_46, wvar_51, wzero_51, wbld_51, wsl_84, wkn_84, wvar_84, wzero_84, wfld_51_0, hxl, hxt]; try simp (disch := omega) only [wrap64]) | (with_reducible refine hK' _ ?_; clear hK' K') | (with_reducible refine hK _ ?_; clear hK K) | (with_reducible first | refine And.intro (And.intro rfl rfl) ?_ | refine And.intro (by omega) ?_) | (with_reducible refine And.intro (fun hg => ?_) (fun hg => ?_) <;> first | simp only [eq_false hg, rsB] | simp only [eq_true hg, rsB] | simp only [hg, rsB]) | (with_reducible first | refine And.intro rfl (And.intro rfl rfl) | refine thenQ_n ?_ | refine thenQ_exit ?_ | refine thenQ_ret ?_ | refine midQ_ret ?_ | refine midQ_exit ?_ | refine blockQ_same ?_ | refine blockQ_ne (by decide) ?_ | refine blockQ_ret ?_ | refine blockQ_n ?_ | refine AW.exit ?_ | refine AW.block ?_ | refine AW.cond_t rfl ?_ | refine AW.cond_f rfl ?_ | refine AW.cond_dec rfl (fun hc => ?_) (fun hc => ?_)) | (with_reducible refine AW.cond rfl (fun hc => ?_) (fun hc => ?_) <;> try simp only [Bool.not_eq_eq_eq_not, Bool.not_true, Bool.not_false, decide_eq_true_eq, decide_eq_false_iff_not] at hc) | (with_reducible first | refine AW.seq ?_ | refine AW.skip ?_ | refine AW.ret ?_ | refine And.intro ?_ ?_) | (with_reducible intro hg; first | simp only [eq_false hg, rsB] | simp only [eq_true hg, rsB]) | (with_reducible refine retQ_drop ?_; simp only [vRes, packRes, vLoad, vPart, lk, cond, Nat.reduceBEq, get_loc, getD_zero, getD_succ, true_and, List.length_cons, List.length_nil, Nat.reduceAdd, Nat.reduceLT, Nat.reduceLeDiff, List.take_succ_cons, List.take_zero, List.drop_succ_cons, List.drop_zero, wvar_1, wzero_1, wvar_2, wzero_2, wknd_2, wsn_2, wvar_3, wzero_3, wknd_3, wsn_3, wvar_4, wzero_4, wknd_4, wsn_4, wvar_5, wzero_5, wknd_5, wsn_5, wvar_9, wzero_9, wknd_9, wsn_9, wsl_27, wkn_27, wvar_27, wzero_27, wsl_46, wkn_46, wvar_46, wzero_46, wvar_51, wzero_51, wbld_51, wsl_84, wkn_84, wvar_84, wzero_84, wfld_51_0]) )
          all_goals first
            | (exfalso; omega)
            | skip
          all_goals exact ⟨_, _, FinOk.drop hB (Plain.tup (plain_cons (Plain.agg (plain_cons (.v _) plain_nil)) (plain_cons (.v _) plain_nil))).ids, .inr ⟨hr2 hbad, rfl, rfl⟩⟩
    · obtain rfl : j = p.size := by omega
      have hpt : p.data.toList.take p.size = p.data.toList := List.take_of_length_le (by rw [data_len]; omega)
      rw [hpt] at hJ hxl hxt ⊢
      repeat' (first | (with_reducible first | refine AW.sreg envOk2 fun K hK => ?_ | refine AW.region envOk2 fun K hK => ?_ | refine vcL_nil ?_) | (with_reducible (first | refine vcL_cons fun K' hK' => ?_); simp only [isC, Bool.false_or, Bool.or_true, vAppend, elems, ↓reduceDIte, List.take_length, Nat.le_refl, List.drop_zero, vGuard, undef, Bool.not_eq_eq_eq_not, dstOk, vcOp, vcF, isPure, putS, vcCall, St.ev, St.put, lk, AVal.ofVal, initS, Nat.reduceLT, true_and, and_true, vBin, vUn, vPick, vConv, vPart, vLoad, vStore, vIdxA, vIdx, vFldA, vLen, vAlloc, vBuild, vBuildSl, partsA, fillA, decAll, AVal.flat, AVal.cell, cellsOk, setRange, ETy.enc, ETy.dec, ETy.sz, ETy.d, cond, Nat.reduceBEq, Nat.reduceAdd, Int.toNat_natCast, List.length_set, List.length_append, List.length_replicate, List.length_take, Nat.reduceSub, Nat.reduceEqDiff, get_loc, setBox_loc, next_eq, List.length_cons, List.length_nil, List.map_cons, List.map_nil, List.append_nil, List.nil_append, List.cons_append, List.set_cons_zero, List.set_cons_succ, getD_zero, getD_succ, List.getElem?_cons_succ, List.getElem?_cons_zero, List.take_succ_cons, List.take_zero, List.drop_succ_cons, List.all_cons, List.all_nil, Bool.and_true, Bool.true_and, Option.bind_some, Option.map_some, Option.map_none, decide_eq_true_eq, decide_eq_false_iff_not, ne_eq, Bool.not_eq_true, Bool.not_eq_false, Decidable.not_not, not_true_eq_false, not_false_eq_true, forall_const, false_implies, Bool.true_eq_false, Bool.false_eq_true, reduceCtorEq, decide_true, decide_false, Bool.not_true, Bool.not_false, if_true, if_false, Nat.zero_add, Nat.lt_irrefl, Value.oneCell', gt_iff_lt, Nat.reduceLeDiff, Nat.lt_add_one, vSealSl, wvar_1, wzero_1, wvar_2, wzero_2, wknd_2, wsn_2, wvar_3, wzero_3, wknd_3, wsn_3, wvar_4, wzero_4, wknd_4, wsn_4, wvar_5, wzero_5, wknd_5, wsn_5, wvar_9, wzero_9, wknd_9, wsn_9, wsl_27, wkn_27, wvar_27, wzero_27, wsl_46, wkn_46, wvar_46, wzero_46, wvar_51, wzero_51, wbld_51, wsl_84, wkn_84, wvar_84, wzero_84, wfld_51_0, hxl, hxt]; try simp (disch := omega) only [wrap64]) | (with_reducible refine hK' _ ?_; clear hK' K') | (with_reducible refine hK _ ?_; clear hK K) | (with_reducible first | refine And.intro (And.intro rfl rfl) ?_ | refine And.intro (by omega) ?_) | (with_reducible refine And.intro (fun hg => ?_) (fun hg => ?_) <;> first | simp only [eq_false hg, rsB] | simp only [eq_true hg, rsB] | simp only [hg, rsB]) | (with_reducible first | refine And.intro rfl (And.intro rfl rfl) | refine thenQ_n ?_ | refine thenQ_exit ?_ | refine thenQ_ret ?_ | refine midQ_ret ?_ | refine midQ_exit ?_ | refine blockQ_same ?_ | refine blockQ_ne (by decide) ?_ | refine blockQ_ret ?_ | refine blockQ_n ?_ | refine AW.exit ?_ | refine AW.block ?_ | refine AW.cond_t rfl ?_ | refine AW.cond_f rfl ?_ | refine AW.cond_dec rfl (fun hc => ?_) (fun hc => ?_)) | (with_reducible refine AW.cond rfl (fun hc => ?_) (fun hc => ?_) <;> try simp only [Bool.not_eq_eq_eq_not, Bool.not_true, Bool.not_false, decide_eq_true_eq, decide_eq_false_iff_not] at hc) | (with_reducible first | refine AW.seq ?_ | refine AW.skip ?_ | refine AW.ret ?_ | refine And.intro ?_ ?_) | (with_reducible intro hg; first | simp only [eq_false hg, rsB] | simp only [eq_true hg, rsB]) | (with_reducible refine retQ_drop ?_; simp only [vRes, packRes, vLoad, vPart, lk, cond, Nat.reduceBEq, get_loc, getD_zero, getD_succ, true_and, List.length_cons, List.length_nil, Nat.reduceAdd, Nat.reduceLT, Nat.reduceLeDiff, List.take_succ_cons, List.take_zero, List.drop_succ_cons, List.drop_zero, wvar_1, wzero_1, wvar_2, wzero_2, wknd_2, wsn_2, wvar_3, wzero_3, wknd_3, wsn_3, wvar_4, wzero_4, wknd_4, wsn_4, wvar_5, wzero_5, wknd_5, wsn_5, wvar_9, wzero_9, wknd_9, wsn_9, wsl_27, wkn_27, wvar_27, wzero_27, wsl_46, wkn_46, wvar_46, wzero_46, wvar_51, wzero_51, wbld_51, wsl_84, wkn_84, wvar_84, wzero_84, wfld_51_0]) )
      all_goals first
        | (exfalso; omega)
        | skip
      have e1 : rowsP (P.take 1) = [rowR p.data.toList] := by
        have := rowsP_take (P := P) (i := 0) (by omega)
        rw [hpd] at this
        simpa [rowsP] using this
      refine ⟨1, ⟨by omega, fun k hk => by
        obtain rfl : k = 0 := by omega
        rw [hpd]; exact hJ⟩, by omega, ?_⟩
      rw [if_neg (by decide), e1]
      refine Weak.trans (st1 := rmG P G ([] ++ [some (G.length + 0, p.size)]) (rowR p.data.toList) 1) ?_ ?_
      · unfold rmG
        exact (Weak.sel [3, 0, 1, 2, 5] hB (by decide) (by (repeat' (first | exact trivial | exact RenB.plRow rfl | exact RenB.dead _ | exact RenB.ownKeep (by assumption) | exact RenB.ownSnoc (by assumption) rfl | exact RenB.ownAt (by assumption) (by assumption) rfl | exact RenB.own2 (by assumption) rfl rfl | exact RenB.map _ _ | exact RenB.iter rfl | refine And.intro ?_ ?_ | (refine RenB.plBox ?_; (repeat' (first | exact Pl.v _ | exact Pl.junk | exact Pl.rd rfl _ | exact pl_nil | refine pl_cons ?_ ?_ | refine Pl.agg ?_ | refine Pl.tup ?_ | refine Pl.rp ?_ | refine Pl.fn ?_)); (first | done | fail)) | refine RenB.of ?_ | exact RenV.ptr rfl | exact RenV.sl rfl | exact RenV.mp rfl | exact RenV.it rfl | exact RenV.low (IdsLt.mp (by assumption)) | (refine RenV.pl ?_; (repeat' (first | exact Pl.v _ | exact Pl.junk | exact Pl.rd rfl _ | exact pl_nil | refine pl_cons ?_ ?_ | refine Pl.agg ?_ | refine Pl.tup ?_ | refine Pl.rp ?_ | refine Pl.fn ?_)); (first | done | fail)) | refine RenV.aggL ?_ | refine RenV.fnL ?_ | exact Nat.lt_of_sub_pos (by decide) | (simp; (first | done | fail)))); (first | done | fail)) (by (repeat' (first | exact trivial | exact RenV.ptr rfl | exact RenV.sl rfl | exact RenV.mp rfl | exact RenV.it rfl | exact RenV.low (IdsLt.mp (by assumption)) | exact RenV.low (.v _) | exact RenV.low (IdsLt.ptr (by assumption)) | (refine RenV.pl ?_; (repeat' (first | exact Pl.v _ | exact Pl.junk | exact Pl.rd rfl _ | exact pl_nil | refine pl_cons ?_ ?_ | refine Pl.agg ?_ | refine Pl.tup ?_ | refine Pl.rp ?_ | refine Pl.fn ?_)); (first | done | fail)) | refine RenV.fnL ?_ | refine RenV.aggL ?_ | refine And.intro ?_ ?_)); (first | done | fail)))
      · unfold rmG rmI
        simp only [List.length_append, List.length_singleton, Nat.add_assoc, Nat.reduceAdd, Eng.rowsB, List.map_cons, List.map_nil, List.length_cons, List.length_nil, List.nil_append, refs, hxl]
        exact Weak.grow
  · rw [if_neg h0]
    unfold rmI
    obtain ⟨H, hH⟩ : ∃ H, G ++ Eng.rowsB (rowsP (P.take i)) = H := ⟨_, rfl⟩
    have hHl : H.length = G.length + i := by rw [← hH, List.length_append, rowsB_len, htl]
    have hB : BaseLt H.length H := hH ▸ hBG.rows _
    rw [hH]
    have hlt : OwnLt H.length (refs G.length (rowsP (P.take i))) := refs_lt (by omega)
    have hlr := refs_len G.length (rowsP (P.take i))
    rw [htl] at hlr
    by_cases hin : i < P.length
    · have htk : (refs G.length (rowsP (P.take i))).take i = refs G.length (rowsP (P.take i)) := List.take_of_length_le (by omega)
      repeat' (first | (with_reducible first | refine AW.sreg envOk2 fun K hK => ?_ | refine AW.region envOk2 fun K hK => ?_ | refine vcL_nil ?_) | (with_reducible (first | refine vcL_cons fun K' hK' => ?_); simp only [isC, Bool.false_or, Bool.or_true, vAppend, elems, ↓reduceDIte, List.take_length, Nat.le_refl, List.drop_zero, vGuard, undef, Bool.not_eq_eq_eq_not, dstOk, vcOp, vcF, isPure, putS, vcCall, St.ev, St.put, lk, AVal.ofVal, initS, Nat.reduceLT, true_and, and_true, vBin, vUn, vPick, vConv, vPart, vLoad, vStore, vIdxA, vIdx, vFldA, vLen, vAlloc, vBuild, vBuildSl, partsA, fillA, decAll, AVal.flat, AVal.cell, cellsOk, setRange, ETy.enc, ETy.dec, ETy.sz, ETy.d, cond, Nat.reduceBEq, Nat.reduceAdd, Int.toNat_natCast, List.length_set, List.length_append, List.length_replicate, List.length_take, Nat.reduceSub, Nat.reduceEqDiff, get_loc, setBox_loc, next_eq, List.length_cons, List.length_nil, List.map_cons, List.map_nil, List.append_nil, List.nil_append, List.cons_append, List.set_cons_zero, List.set_cons_succ, getD_zero, getD_succ, List.getElem?_cons_succ, List.getElem?_cons_zero, List.take_succ_cons, List.take_zero, List.drop_succ_cons, List.all_cons, List.all_nil, Bool.and_true, Bool.true_and, Option.bind_some, Option.map_some, Option.map_none, decide_eq_true_eq, decide_eq_false_iff_not, ne_eq, Bool.not_eq_true, Bool.not_eq_false, Decidable.not_not, not_true_eq_false, not_false_eq_true, forall_const, false_implies, Bool.true_eq_false, Bool.false_eq_true, reduceCtorEq, decide_true, decide_false, Bool.not_true, Bool.not_false, if_true, if_false, Nat.zero_add, Nat.lt_irrefl, Value.oneCell', gt_iff_lt, Nat.reduceLeDiff, Nat.lt_add_one, vSealSl, wvar_1, wzero_1, wvar_2, wzero_2, wknd_2, wsn_2, wvar_3, wzero_3, wknd_3, wsn_3, wvar_4, wzero_4, wknd_4, wsn_4, wvar_5, wzero_5, wknd_5, wsn_5, wvar_9, wzero_9, wknd_9, wsn_9, wsl_27, wkn_27, wvar_27, wzero_27, wsl_46, wkn_46, wvar_46, wzero_46, wvar_51, wzero_51, wbld_51, wsl_84, wkn_84, wvar_84, wzero_84, wfld_51_0, hpd, hlr, htk]; try simp (disch := omega) only [wrap64]) | (with_reducible refine hK' _ ?_; clear hK' K') | (with_reducible refine hK _ ?_; clear hK K) | (with_reducible first | refine And.intro (And.intro rfl rfl) ?_ | refine And.intro (by omega) ?_) | (with_reducible refine And.intro (fun hg => ?_) (fun hg => ?_) <;> first | simp only [eq_false hg, rsB] | simp only [eq_true hg, rsB] | simp only [hg, rsB]) | (with_reducible first | refine And.intro rfl (And.intro rfl rfl) | refine thenQ_n ?_ | refine thenQ_exit ?_ | refine thenQ_ret ?_ | refine midQ_ret ?_ | refine midQ_exit ?_ | refine blockQ_same ?_ | refine blockQ_ne (by decide) ?_ | refine blockQ_ret ?_ | refine blockQ_n ?_ | refine AW.exit ?_ | refine AW.block ?_ | refine AW.cond_t rfl ?_ | refine AW.cond_f rfl ?_ | refine AW.cond_dec rfl (fun hc => ?_) (fun hc => ?_)) | (with_reducible refine AW.cond rfl (fun hc => ?_) (fun hc => ?_) <;> try simp only [Bool.not_eq_eq_eq_not, Bool.not_true, Bool.not_false, decide_eq_true_eq, decide_eq_false_iff_not] at hc) | (with_reducible first | refine AW.seq ?_ | refine AW.skip ?_ | refine AW.ret ?_ | refine And.intro ?_ ?_) | (with_reducible intro hg; first | simp only [eq_false hg, rsB] | simp only [eq_true hg, rsB]) | (with_reducible refine retQ_drop ?_; simp only [vRes, packRes, vLoad, vPart, lk, cond, Nat.reduceBEq, get_loc, getD_zero, getD_succ, true_and, List.length_cons, List.length_nil, Nat.reduceAdd, Nat.reduceLT, Nat.reduceLeDiff, List.take_succ_cons, List.take_zero, List.drop_succ_cons, List.drop_zero, wvar_1, wzero_1, wvar_2, wzero_2, wknd_2, wsn_2, wvar_3, wzero_3, wknd_3, wsn_3, wvar_4, wzero_4, wknd_4, wsn_4, wvar_5, wzero_5, wknd_5, wsn_5, wvar_9, wzero_9, wknd_9, wsn_9, wsl_27, wkn_27, wvar_27, wzero_27, wsl_46, wkn_46, wvar_46, wzero_46, wvar_51, wzero_51, wbld_51, wsl_84, wkn_84, wvar_84, wzero_84, wfld_51_0]) )
      all_goals first
        | (exfalso; omega)
        | skip
      refine AW.loop (fun j : Nat => rmB P H (refs G.length (rowsP (P.take i))) i p (rowR (p.data.toList.take j)) j) (fun j => j ≤ p.size ∧ ∀ c ∈ p.data.toList.take j, GoodB c) (fun j => p.size - j) 0 ⟨Nat.zero_le _, fun c hc => by simp at hc⟩ ?_ ?_
      · unfold rmB
        rw [List.take_zero, show rowR [] = [] from rfl]
        exact (Weak.sel [0, 1, 2, 3, 4] hB (by decide) (by (repeat' (first | exact trivial | exact RenB.plRow rfl | exact RenB.dead _ | exact RenB.ownKeep (by assumption) | exact RenB.ownSnoc (by assumption) rfl | exact RenB.ownAt (by assumption) (by assumption) rfl | exact RenB.own2 (by assumption) rfl rfl | exact RenB.map _ _ | exact RenB.iter rfl | refine And.intro ?_ ?_ | (refine RenB.plBox ?_; (repeat' (first | exact Pl.v _ | exact Pl.junk | exact Pl.rd rfl _ | exact pl_nil | refine pl_cons ?_ ?_ | refine Pl.agg ?_ | refine Pl.tup ?_ | refine Pl.rp ?_ | refine Pl.fn ?_)); (first | done | fail)) | refine RenB.of ?_ | exact RenV.ptr rfl | exact RenV.sl rfl | exact RenV.mp rfl | exact RenV.it rfl | exact RenV.low (IdsLt.mp (by assumption)) | (refine RenV.pl ?_; (repeat' (first | exact Pl.v _ | exact Pl.junk | exact Pl.rd rfl _ | exact pl_nil | refine pl_cons ?_ ?_ | refine Pl.agg ?_ | refine Pl.tup ?_ | refine Pl.rp ?_ | refine Pl.fn ?_)); (first | done | fail)) | refine RenV.aggL ?_ | refine RenV.fnL ?_ | exact Nat.lt_of_sub_pos (by decide) | (simp; (first | done | fail)))); (first | done | fail)) (by (repeat' (first | exact trivial | exact RenV.ptr rfl | exact RenV.sl rfl | exact RenV.mp rfl | exact RenV.it rfl | exact RenV.low (IdsLt.mp (by assumption)) | exact RenV.low (.v _) | exact RenV.low (IdsLt.ptr (by assumption)) | (refine RenV.pl ?_; (repeat' (first | exact Pl.v _ | exact Pl.junk | exact Pl.rd rfl _ | exact pl_nil | refine pl_cons ?_ ?_ | refine Pl.agg ?_ | refine Pl.tup ?_ | refine Pl.rp ?_ | refine Pl.fn ?_)); (first | done | fail)) | refine RenV.fnL ?_ | refine RenV.aggL ?_ | refine And.intro ?_ ?_)); (first | done | fail)))
      intro j ⟨hj, hJ⟩
      unfold rmB
      have hxl : (rowR (p.data.toList.take j)).length = j := by rw [rowR_len, List.length_take, data_len]; omega
      have hxt : (rowR (p.data.toList.take j)).take j = rowR (p.data.toList.take j) := List.take_of_length_le (by omega)
      by_cases hjn : j < p.size
      · obtain ⟨c, hb1, hb2⟩ := byte_list hjn
        have hcl := c.toNat_lt
        have hcm : c ∈ p.data.toList := by
          have : c ∈ p.data.toList.take (j + 1) := by rw [hb2]; simp
          exact List.mem_of_mem_take this
        have hnx : GoodB c → ∀ d ∈ p.data.toList.take (j + 1), GoodB d := fun hg d hd => by
          rw [hb2, List.mem_append] at hd
          rcases hd with h | h
          · exact hJ d h
          · rw [List.mem_singleton.1 h]; exact hg
        have hrs : rowR (p.data.toList.take (j + 1)) = rowR (p.data.toList.take j) ++ [convB c] := by rw [hb2, rowR_snoc]
        by_cases h35 : byteAt p j = 35
        · have hc35 : c = 35 := UInt8.toNat_inj.1 (by show c.toNat = 35; omega)
          have hcv : convB c = 0 := if_pos hc35
          rw [hcv] at hrs
          have hgd : GoodB c := .inl hc35
          repeat' (first | (with_reducible first | refine AW.sreg envOk2 fun K hK => ?_ | refine AW.region envOk2 fun K hK => ?_ | refine vcL_nil ?_) | (with_reducible (first | refine vcL_cons fun K' hK' => ?_); simp only [isC, Bool.false_or, Bool.or_true, vAppend, elems, ↓reduceDIte, List.take_length, Nat.le_refl, List.drop_zero, vGuard, undef, Bool.not_eq_eq_eq_not, dstOk, vcOp, vcF, isPure, putS, vcCall, St.ev, St.put, lk, AVal.ofVal, initS, Nat.reduceLT, true_and, and_true, vBin, vUn, vPick, vConv, vPart, vLoad, vStore, vIdxA, vIdx, vFldA, vLen, vAlloc, vBuild, vBuildSl, partsA, fillA, decAll, AVal.flat, AVal.cell, cellsOk, setRange, ETy.enc, ETy.dec, ETy.sz, ETy.d, cond, Nat.reduceBEq, Nat.reduceAdd, Int.toNat_natCast, List.length_set, List.length_append, List.length_replicate, List.length_take, Nat.reduceSub, Nat.reduceEqDiff, get_loc, setBox_loc, next_eq, List.length_cons, List.length_nil, List.map_cons, List.map_nil, List.append_nil, List.nil_append, List.cons_append, List.set_cons_zero, List.set_cons_succ, getD_zero, getD_succ, List.getElem?_cons_succ, List.getElem?_cons_zero, List.take_succ_cons, List.take_zero, List.drop_succ_cons, List.all_cons, List.all_nil, Bool.and_true, Bool.true_and, Option.bind_some, Option.map_some, Option.map_none, decide_eq_true_eq, decide_eq_false_iff_not, ne_eq, Bool.not_eq_true, Bool.not_eq_false, Decidable.not_not, not_true_eq_false, not_false_eq_true, forall_const, false_implies, Bool.true_eq_false, Bool.false_eq_true, reduceCtorEq, decide_true, decide_false, Bool.not_true, Bool.not_false, if_true, if_false, Nat.zero_add, Nat.lt_irrefl, Value.oneCell', gt_iff_lt, Nat.reduceLeDiff, Nat.lt_add_one, vSealSl, wvar_1, wzero_1, wvar_2, wzero_2, wknd_2, wsn_2, wvar_3, wzero_3, wknd_3, wsn_3, wvar_4, wzero_4, wknd_4, wsn_4, wvar_5, wzero_5, wknd_5, wsn_5, wvar_9, wzero_9, wknd_9, wsn_9, wsl_27, wkn_27, wvar_27, wzero_27, wsl_46, wkn_46, wvar_46, wzero_46, wvar_51, wzero_51, wbld_51, wsl_84, wkn_84, wvar_84, wzero_84, wfld_51_0, hxl, hxt]; try simp (disch := omega) only [wrap64]) | (with_reducible refine hK' _ ?_; clear hK' K') | (with_reducible refine hK _ ?_; clear hK K) | (with_reducible first | refine And.intro (And.intro rfl rfl) ?_ | refine And.intro (by omega) ?_) | (with_reducible refine And.intro (fun hg => ?_) (fun hg => ?_) <;> first | simp only [eq_false hg, rsB] | simp only [eq_true hg, rsB] | simp only [hg, rsB]) | (with_reducible first | refine And.intro rfl (And.intro rfl rfl) | refine thenQ_n ?_ | refine thenQ_exit ?_ | refine thenQ_ret ?_ | refine midQ_ret ?_ | refine midQ_exit ?_ | refine blockQ_same ?_ | refine blockQ_ne (by decide) ?_ | refine blockQ_ret ?_ | refine blockQ_n ?_ | refine AW.exit ?_ | refine AW.block ?_ | refine AW.cond_t rfl ?_ | refine AW.cond_f rfl ?_ | refine AW.cond_dec rfl (fun hc => ?_) (fun hc => ?_)) | (with_reducible refine AW.cond rfl (fun hc => ?_) (fun hc => ?_) <;> try simp only [Bool.not_eq_eq_eq_not, Bool.not_true, Bool.not_false, decide_eq_true_eq, decide_eq_false_iff_not] at hc) | (with_reducible first | refine AW.seq ?_ | refine AW.skip ?_ | refine AW.ret ?_ | refine And.intro ?_ ?_) | (with_reducible intro hg; first | simp only [eq_false hg, rsB] | simp only [eq_true hg, rsB]) | (with_reducible refine retQ_drop ?_; simp only [vRes, packRes, vLoad, vPart, lk, cond, Nat.reduceBEq, get_loc, getD_zero, getD_succ, true_and, List.length_cons, List.length_nil, Nat.reduceAdd, Nat.reduceLT, Nat.reduceLeDiff, List.take_succ_cons, List.take_zero, List.drop_succ_cons, List.drop_zero, wvar_1, wzero_1, wvar_2, wzero_2, wknd_2, wsn_2, wvar_3, wzero_3, wknd_3, wsn_3, wvar_4, wzero_4, wknd_4, wsn_4, wvar_5, wzero_5, wknd_5, wsn_5, wvar_9, wzero_9, wknd_9, wsn_9, wsl_27, wkn_27, wvar_27, wzero_27, wsl_46, wkn_46, wvar_46, wzero_46, wvar_51, wzero_51, wbld_51, wsl_84, wkn_84, wvar_84, wzero_84, wfld_51_0]) )
          all_goals first
            | (exfalso; omega)
            | skip
          refine ⟨j + 1, ⟨by omega, hnx hgd⟩, by omega, ?_⟩
          rw [hrs]
          exact (Weak.sel [0, 1, 2, 3, 6] hB (by decide) (by (repeat' (first | exact trivial | exact RenB.plRow rfl | exact RenB.dead _ | exact RenB.ownKeep (by assumption) | exact RenB.ownSnoc (by assumption) rfl | exact RenB.ownAt (by assumption) (by assumption) rfl | exact RenB.own2 (by assumption) rfl rfl | exact RenB.map _ _ | exact RenB.iter rfl | refine And.intro ?_ ?_ | (refine RenB.plBox ?_; (repeat' (first | exact Pl.v _ | exact Pl.junk | exact Pl.rd rfl _ | exact pl_nil | refine pl_cons ?_ ?_ | refine Pl.agg ?_ | refine Pl.tup ?_ | refine Pl.rp ?_ | refine Pl.fn ?_)); (first | done | fail)) | refine RenB.of ?_ | exact RenV.ptr rfl | exact RenV.sl rfl | exact RenV.mp rfl | exact RenV.it rfl | exact RenV.low (IdsLt.mp (by assumption)) | (refine RenV.pl ?_; (repeat' (first | exact Pl.v _ | exact Pl.junk | exact Pl.rd rfl _ | exact pl_nil | refine pl_cons ?_ ?_ | refine Pl.agg ?_ | refine Pl.tup ?_ | refine Pl.rp ?_ | refine Pl.fn ?_)); (first | done | fail)) | refine RenV.aggL ?_ | refine RenV.fnL ?_ | exact Nat.lt_of_sub_pos (by decide) | (simp; (first | done | fail)))); (first | done | fail)) (by (repeat' (first | exact trivial | exact RenV.ptr rfl | exact RenV.sl rfl | exact RenV.mp rfl | exact RenV.it rfl | exact RenV.low (IdsLt.mp (by assumption)) | exact RenV.low (.v _) | exact RenV.low (IdsLt.ptr (by assumption)) | (refine RenV.pl ?_; (repeat' (first | exact Pl.v _ | exact Pl.junk | exact Pl.rd rfl _ | exact pl_nil | refine pl_cons ?_ ?_ | refine Pl.agg ?_ | refine Pl.tup ?_ | refine Pl.rp ?_ | refine Pl.fn ?_)); (first | done | fail)) | refine RenV.fnL ?_ | refine RenV.aggL ?_ | refine And.intro ?_ ?_)); (first | done | fail)))
        · have hc35 : ¬ c = 35 := fun e => h35 (by rw [hb1, e]; rfl)
          by_cases hdg : 49 ≤ byteAt p j ∧ byteAt p j ≤ 57
          · have hcv : convB c = byteAt p j - 48 := by rw [hb1]; exact if_neg hc35
            have wu : IntKind.u8.wrap (byteAt p j - 48) = byteAt p j - 48 := wrap8 (by omega)
            rw [hcv] at hrs
            have hgd : GoodB c := .inr ⟨by omega, by omega⟩
            repeat' (first | (with_reducible first | refine AW.sreg envOk2 fun K hK => ?_ | refine AW.region envOk2 fun K hK => ?_ | refine vcL_nil ?_) | (with_reducible (first | refine vcL_cons fun K' hK' => ?_); simp only [isC, Bool.false_or, Bool.or_true, vAppend, elems, ↓reduceDIte, List.take_length, Nat.le_refl, List.drop_zero, vGuard, undef, Bool.not_eq_eq_eq_not, dstOk, vcOp, vcF, isPure, putS, vcCall, St.ev, St.put, lk, AVal.ofVal, initS, Nat.reduceLT, true_and, and_true, vBin, vUn, vPick, vConv, vPart, vLoad, vStore, vIdxA, vIdx, vFldA, vLen, vAlloc, vBuild, vBuildSl, partsA, fillA, decAll, AVal.flat, AVal.cell, cellsOk, setRange, ETy.enc, ETy.dec, ETy.sz, ETy.d, cond, Nat.reduceBEq, Nat.reduceAdd, Int.toNat_natCast, List.length_set, List.length_append, List.length_replicate, List.length_take, Nat.reduceSub, Nat.reduceEqDiff, get_loc, setBox_loc, next_eq, List.length_cons, List.length_nil, List.map_cons, List.map_nil, List.append_nil, List.nil_append, List.cons_append, List.set_cons_zero, List.set_cons_succ, getD_zero, getD_succ, List.getElem?_cons_succ, List.getElem?_cons_zero, List.take_succ_cons, List.take_zero, List.drop_succ_cons, List.all_cons, List.all_nil, Bool.and_true, Bool.true_and, Option.bind_some, Option.map_some, Option.map_none, decide_eq_true_eq, decide_eq_false_iff_not, ne_eq, Bool.not_eq_true, Bool.not_eq_false, Decidable.not_not, not_true_eq_false, not_false_eq_true, forall_const, false_implies, Bool.true_eq_false, Bool.false_eq_true, reduceCtorEq, decide_true, decide_false, Bool.not_true, Bool.not_false, if_true, if_false, Nat.zero_add, Nat.lt_irrefl, Value.oneCell', gt_iff_lt, Nat.reduceLeDiff, Nat.lt_add_one, vSealSl, wvar_1, wzero_1, wvar_2, wzero_2, wknd_2, wsn_2, wvar_3, wzero_3, wknd_3, wsn_3, wvar_4, wzero_4, wknd_4, wsn_4, wvar_5, wzero_5, wknd_5, wsn_5, wvar_9, wzero_9, wknd_9, wsn_9, wsl_27, wkn_27, wvar_27, wzero_27, wsl_46, wkn_46, wvar_46, wzero_46, wvar_51, wzero_51, wbld_51, wsl_84, wkn_84, wvar_84, wzero_84, wfld_51_0, hxl, hxt, wu]; try simp (disch := omega) only [wrap64]) | (with_reducible refine hK' _ ?_; clear hK' K') | (with_reducible refine hK _ ?_; clear hK K) | (with_reducible first | refine And.intro (And.intro rfl rfl) ?_ | refine And.intro (by omega) ?_) | (with_reducible refine And.intro (fun hg => ?_) (fun hg => ?_) <;> first | simp only [eq_false hg, rsB] | simp only [eq_true hg, rsB] | simp only [hg, rsB]) | (with_reducible first | refine And.intro rfl (And.intro rfl rfl) | refine thenQ_n ?_ | refine thenQ_exit ?_ | refine thenQ_ret ?_ | refine midQ_ret ?_ | refine midQ_exit ?_ | refine blockQ_same ?_ | refine blockQ_ne (by decide) ?_ | refine blockQ_ret ?_ | refine blockQ_n ?_ | refine AW.exit ?_ | refine AW.block ?_ | refine AW.cond_t rfl ?_ | refine AW.cond_f rfl ?_ | refine AW.cond_dec rfl (fun hc => ?_) (fun hc => ?_)) | (with_reducible refine AW.cond rfl (fun hc => ?_) (fun hc => ?_) <;> try simp only [Bool.not_eq_eq_eq_not, Bool.not_true, Bool.not_false, decide_eq_true_eq, decide_eq_false_iff_not] at hc) | (with_reducible first | refine AW.seq ?_ | refine AW.skip ?_ | refine AW.ret ?_ | refine And.intro ?_ ?_) | (with_reducible intro hg; first | simp only [eq_false hg, rsB] | simp only [eq_true hg, rsB]) | (with_reducible refine retQ_drop ?_; simp only [vRes, packRes, vLoad, vPart, lk, cond, Nat.reduceBEq, get_loc, getD_zero, getD_succ, true_and, List.length_cons, List.length_nil, Nat.reduceAdd, Nat.reduceLT, Nat.reduceLeDiff, List.take_succ_cons, List.take_zero, List.drop_succ_cons, List.drop_zero, wvar_1, wzero_1, wvar_2, wzero_2, wknd_2, wsn_2, wvar_3, wzero_3, wknd_3, wsn_3, wvar_4, wzero_4, wknd_4, wsn_4, wvar_5, wzero_5, wknd_5, wsn_5, wvar_9, wzero_9, wknd_9, wsn_9, wsl_27, wkn_27, wvar_27, wzero_27, wsl_46, wkn_46, wvar_46, wzero_46, wvar_51, wzero_51, wbld_51, wsl_84, wkn_84, wvar_84, wzero_84, wfld_51_0]) )
            all_goals first
              | (exfalso; omega)
              | skip
            refine ⟨j + 1, ⟨by omega, hnx hgd⟩, by omega, ?_⟩
            rw [hrs]
            exact (Weak.sel [0, 1, 2, 3, 6] hB (by decide) (by (repeat' (first | exact trivial | exact RenB.plRow rfl | exact RenB.dead _ | exact RenB.ownKeep (by assumption) | exact RenB.ownSnoc (by assumption) rfl | exact RenB.ownAt (by assumption) (by assumption) rfl | exact RenB.own2 (by assumption) rfl rfl | exact RenB.map _ _ | exact RenB.iter rfl | refine And.intro ?_ ?_ | (refine RenB.plBox ?_; (repeat' (first | exact Pl.v _ | exact Pl.junk | exact Pl.rd rfl _ | exact pl_nil | refine pl_cons ?_ ?_ | refine Pl.agg ?_ | refine Pl.tup ?_ | refine Pl.rp ?_ | refine Pl.fn ?_)); (first | done | fail)) | refine RenB.of ?_ | exact RenV.ptr rfl | exact RenV.sl rfl | exact RenV.mp rfl | exact RenV.it rfl | exact RenV.low (IdsLt.mp (by assumption)) | (refine RenV.pl ?_; (repeat' (first | exact Pl.v _ | exact Pl.junk | exact Pl.rd rfl _ | exact pl_nil | refine pl_cons ?_ ?_ | refine Pl.agg ?_ | refine Pl.tup ?_ | refine Pl.rp ?_ | refine Pl.fn ?_)); (first | done | fail)) | refine RenV.aggL ?_ | refine RenV.fnL ?_ | exact Nat.lt_of_sub_pos (by decide) | (simp; (first | done | fail)))); (first | done | fail)) (by (repeat' (first | exact trivial | exact RenV.ptr rfl | exact RenV.sl rfl | exact RenV.mp rfl | exact RenV.it rfl | exact RenV.low (IdsLt.mp (by assumption)) | exact RenV.low (.v _) | exact RenV.low (IdsLt.ptr (by assumption)) | (refine RenV.pl ?_; (repeat' (first | exact Pl.v _ | exact Pl.junk | exact Pl.rd rfl _ | exact pl_nil | refine pl_cons ?_ ?_ | refine Pl.agg ?_ | refine Pl.tup ?_ | refine Pl.rp ?_ | refine Pl.fn ?_)); (first | done | fail)) | refine RenV.fnL ?_ | refine RenV.aggL ?_ | refine And.intro ?_ ?_)); (first | done | fail)))
          · have hbad : GoodP P P.length → ¬ MzOk (rowsP P) := fun h _ => by
              have := h i (by omega) c (by rw [hpd]; exact hcm)
              rcases this with e | e
              · exact hc35 e
              · omega
            repeat' (first | (with_reducible first | refine AW.sreg envOk2 fun K hK => ?_ | refine AW.region envOk2 fun K hK => ?_ | refine vcL_nil ?_) | (with_reducible (first | refine vcL_cons fun K' hK' => ?_); simp only [isC, Bool.false_or, Bool.or_true, vAppend, elems, ↓reduceDIte, List.take_length, Nat.le_refl, List.drop_zero, vGuard, undef, Bool.not_eq_eq_eq_not, dstOk, vcOp, vcF, isPure, putS, vcCall, St.ev, St.put, lk, AVal.ofVal, initS, Nat.reduceLT, true_and, and_true, vBin, vUn, vPick, vConv, vPart, vLoad, vStore, vIdxA, vIdx, vFldA, vLen, vAlloc, vBuild, vBuildSl, partsA, fillA, decAll, AVal.flat, AVal.cell, cellsOk, setRange, ETy.enc, ETy.dec, ETy.sz, ETy.d, cond, Nat.reduceBEq, Nat.reduceAdd, Int.toNat_natCast, List.length_set, List.length_append, List.length_replicate, List.length_take, Nat.reduceSub, Nat.reduceEqDiff, get_loc, setBox_loc, next_eq, List.length_cons, List.length_nil, List.map_cons, List.map_nil, List.append_nil, List.nil_append, List.cons_append, List.set_cons_zero, List.set_cons_succ, getD_zero, getD_succ, List.getElem?_cons_succ, List.getElem?_cons_zero, List.take_succ_cons, List.take_zero, List.drop_succ_cons, List.all_cons, List.all_nil, Bool.and_true, Bool.true_and, Option.bind_some, Option.map_some, Option.map_none, decide_eq_true_eq, decide_eq_false_iff_not, ne_eq, Bool.not_eq_true, Bool.not_eq_false, Decidable.not_not, not_true_eq_false, not_false_eq_true, forall_const, false_implies, Bool.true_eq_false, Bool.false_eq_true, reduceCtorEq, decide_true, decide_false, Bool.not_true, Bool.not_false, if_true, if_false, Nat.zero_add, Nat.lt_irrefl, Value.oneCell', gt_iff_lt, Nat.reduceLeDiff, Nat.lt_add_one, vSealSl, wvar_1, wzero_1, wvar_2, wzero_2, wknd_2, wsn_2, wvar_3, wzero_3, wknd_3, wsn_3, wvar_4, wzero_4, wknd_4, wsn_4, wvar_5, wzero_5, wknd_5, wsn_5, wvar_9, wzero_9, wknd_9, wsn_9, wsl_27, wkn_27, wvar_27, wzero_27, wsl_46, wkn_46, wvar_46, wzero_46, wvar_51, wzero_51, wbld_51, wsl_84, wkn_84, wvar_84, wzero_84, wfld_51_0, hxl, hxt]; try simp (disch := omega) only [wrap64]) | (with_reducible refine hK' _ ?_; clear hK' K') | (with_reducible refine hK _ ?_; clear hK K) | (with_reducible first | refine And.intro (And.intro rfl rfl) ?_ | refine And.intro (by omega) ?_) | (with_reducible refine And.intro (fun hg => ?_) (fun hg => ?_) <;> first | simp only [eq_false hg, rsB] | simp only [eq_true hg, rsB] | simp only [hg, rsB]) | (with_reducible first | refine And.intro rfl (And.intro rfl rfl) | refine thenQ_n ?_ | refine thenQ_exit ?_ | refine thenQ_ret ?_ | refine midQ_ret ?_ | refine midQ_exit ?_ | refine blockQ_same ?_ | refine blockQ_ne (by decide) ?_ | refine blockQ_ret ?_ | refine blockQ_n ?_ | refine AW.exit ?_ | refine AW.block ?_ | refine AW.cond_t rfl ?_ | refine AW.cond_f rfl ?_ | refine AW.cond_dec rfl (fun hc => ?_) (fun hc => ?_)) | (with_reducible refine AW.cond rfl (fun hc => ?_) (fun hc => ?_) <;> try simp only [Bool.not_eq_eq_eq_not, Bool.not_true, Bool.not_false, decide_eq_true_eq, decide_eq_false_iff_not] at hc) | (with_reducible first | refine AW.seq ?_ | refine AW.skip ?_ | refine AW.ret ?_ | refine And.intro ?_ ?_) | (with_reducible intro hg; first | simp only [eq_false hg, rsB] | simp only [eq_true hg, rsB]) | (with_reducible refine retQ_drop ?_; simp only [vRes, packRes, vLoad, vPart, lk, cond, Nat.reduceBEq, get_loc, getD_zero, getD_succ, true_and, List.length_cons, List.length_nil, Nat.reduceAdd, Nat.reduceLT, Nat.reduceLeDiff, List.take_succ_cons, List.take_zero, List.drop_succ_cons, List.drop_zero, wvar_1, wzero_1, wvar_2, wzero_2, wknd_2, wsn_2, wvar_3, wzero_3, wknd_3, wsn_3, wvar_4, wzero_4, wknd_4, wsn_4, wvar_5, wzero_5, wknd_5, wsn_5, wvar_9, wzero_9, wknd_9, wsn_9, wsl_27, wkn_27, wvar_27, wzero_27, wsl_46, wkn_46, wvar_46, wzero_46, wvar_51, wzero_51, wbld_51, wsl_84, wkn_84, wvar_84, wzero_84, wfld_51_0]) )
            all_goals first
              | (exfalso; omega)
              | skip
            all_goals subst hH
            all_goals exact ⟨_, _, FinOk.dropTo (K := Eng.rowsB (rowsP (P.take i))) hBG rfl (Plain.tup (plain_cons (Plain.agg (plain_cons (.v _) plain_nil)) (plain_cons (.v _) plain_nil))).ids, .inr ⟨hr2 hbad, rfl, rfl⟩⟩
      · obtain rfl : j = p.size := by omega
        have hpt : p.data.toList.take p.size = p.data.toList := List.take_of_length_le (by rw [data_len]; omega)
        rw [hpt] at hJ hxl hxt ⊢
        repeat' (first | (with_reducible first | refine AW.sreg envOk2 fun K hK => ?_ | refine AW.region envOk2 fun K hK => ?_ | refine vcL_nil ?_) | (with_reducible (first | refine vcL_cons fun K' hK' => ?_); simp only [isC, Bool.false_or, Bool.or_true, vAppend, elems, ↓reduceDIte, List.take_length, Nat.le_refl, List.drop_zero, vGuard, undef, Bool.not_eq_eq_eq_not, dstOk, vcOp, vcF, isPure, putS, vcCall, St.ev, St.put, lk, AVal.ofVal, initS, Nat.reduceLT, true_and, and_true, vBin, vUn, vPick, vConv, vPart, vLoad, vStore, vIdxA, vIdx, vFldA, vLen, vAlloc, vBuild, vBuildSl, partsA, fillA, decAll, AVal.flat, AVal.cell, cellsOk, setRange, ETy.enc, ETy.dec, ETy.sz, ETy.d, cond, Nat.reduceBEq, Nat.reduceAdd, Int.toNat_natCast, List.length_set, List.length_append, List.length_replicate, List.length_take, Nat.reduceSub, Nat.reduceEqDiff, get_loc, setBox_loc, next_eq, List.length_cons, List.length_nil, List.map_cons, List.map_nil, List.append_nil, List.nil_append, List.cons_append, List.set_cons_zero, List.set_cons_succ, getD_zero, getD_succ, List.getElem?_cons_succ, List.getElem?_cons_zero, List.take_succ_cons, List.take_zero, List.drop_succ_cons, List.all_cons, List.all_nil, Bool.and_true, Bool.true_and, Option.bind_some, Option.map_some, Option.map_none, decide_eq_true_eq, decide_eq_false_iff_not, ne_eq, Bool.not_eq_true, Bool.not_eq_false, Decidable.not_not, not_true_eq_false, not_false_eq_true, forall_const, false_implies, Bool.true_eq_false, Bool.false_eq_true, reduceCtorEq, decide_true, decide_false, Bool.not_true, Bool.not_false, if_true, if_false, Nat.zero_add, Nat.lt_irrefl, Value.oneCell', gt_iff_lt, Nat.reduceLeDiff, Nat.lt_add_one, vSealSl, wvar_1, wzero_1, wvar_2, wzero_2, wknd_2, wsn_2, wvar_3, wzero_3, wknd_3, wsn_3, wvar_4, wzero_4, wknd_4, wsn_4, wvar_5, wzero_5, wknd_5, wsn_5, wvar_9, wzero_9, wknd_9, wsn_9, wsl_27, wkn_27, wvar_27, wzero_27, wsl_46, wkn_46, wvar_46, wzero_46, wvar_51, wzero_51, wbld_51, wsl_84, wkn_84, wvar_84, wzero_84, wfld_51_0, hxl, hxt, hlr, htk]; try simp (disch := omega) only [wrap64]) | (with_reducible refine hK' _ ?_; clear hK' K') | (with_reducible refine hK _ ?_; clear hK K) | (with_reducible first | refine And.intro (And.intro rfl rfl) ?_ | refine And.intro (by omega) ?_) | (with_reducible refine And.intro (fun hg => ?_) (fun hg => ?_) <;> first | simp only [eq_false hg, rsB] | simp only [eq_true hg, rsB] | simp only [hg, rsB]) | (with_reducible first | refine And.intro rfl (And.intro rfl rfl) | refine thenQ_n ?_ | refine thenQ_exit ?_ | refine thenQ_ret ?_ | refine midQ_ret ?_ | refine midQ_exit ?_ | refine blockQ_same ?_ | refine blockQ_ne (by decide) ?_ | refine blockQ_ret ?_ | refine blockQ_n ?_ | refine AW.exit ?_ | refine AW.block ?_ | refine AW.cond_t rfl ?_ | refine AW.cond_f rfl ?_ | refine AW.cond_dec rfl (fun hc => ?_) (fun hc => ?_)) | (with_reducible refine AW.cond rfl (fun hc => ?_) (fun hc => ?_) <;> try simp only [Bool.not_eq_eq_eq_not, Bool.not_true, Bool.not_false, decide_eq_true_eq, decide_eq_false_iff_not] at hc) | (with_reducible first | refine AW.seq ?_ | refine AW.skip ?_ | refine AW.ret ?_ | refine And.intro ?_ ?_) | (with_reducible intro hg; first | simp only [eq_false hg, rsB] | simp only [eq_true hg, rsB]) | (with_reducible refine retQ_drop ?_; simp only [vRes, packRes, vLoad, vPart, lk, cond, Nat.reduceBEq, get_loc, getD_zero, getD_succ, true_and, List.length_cons, List.length_nil, Nat.reduceAdd, Nat.reduceLT, Nat.reduceLeDiff, List.take_succ_cons, List.take_zero, List.drop_succ_cons, List.drop_zero, wvar_1, wzero_1, wvar_2, wzero_2, wknd_2, wsn_2, wvar_3, wzero_3, wknd_3, wsn_3, wvar_4, wzero_4, wknd_4, wsn_4, wvar_5, wzero_5, wknd_5, wsn_5, wvar_9, wzero_9, wknd_9, wsn_9, wsl_27, wkn_27, wvar_27, wzero_27, wsl_46, wkn_46, wvar_46, wzero_46, wvar_51, wzero_51, wbld_51, wsl_84, wkn_84, wvar_84, wzero_84, wfld_51_0]) )
        all_goals first
          | (exfalso; omega)
          | skip
        have hpe := rowsP_take (P := P) (i := i) (by omega)
        rw [hpd] at hpe
        refine ⟨i + 1, ⟨by omega, fun k hk => by
          by_cases e : k = i
          · subst e; rw [hpd]; exact hJ
          · exact hI k (by omega)⟩, by omega, ?_⟩
        rw [if_neg (by omega), hpe, rowsB_snoc, ← List.append_assoc, hH, refs_snoc, htl, ← hHl, hxl]
        refine Weak.trans (st1 := rmG P H (refs G.length (rowsP (P.take i)) ++ [some (H.length + 0, p.size)]) (rowR p.data.toList) (i + 1)) ?_ ?_
        · unfold rmG
          exact (Weak.sel [4, 0, 1, 2, 6] hB (by decide) (by (repeat' (first | exact trivial | exact RenB.plRow rfl | exact RenB.dead _ | exact RenB.ownKeep (by assumption) | exact RenB.ownSnoc (by assumption) rfl | exact RenB.ownAt (by assumption) (by assumption) rfl | exact RenB.own2 (by assumption) rfl rfl | exact RenB.map _ _ | exact RenB.iter rfl | refine And.intro ?_ ?_ | (refine RenB.plBox ?_; (repeat' (first | exact Pl.v _ | exact Pl.junk | exact Pl.rd rfl _ | exact pl_nil | refine pl_cons ?_ ?_ | refine Pl.agg ?_ | refine Pl.tup ?_ | refine Pl.rp ?_ | refine Pl.fn ?_)); (first | done | fail)) | refine RenB.of ?_ | exact RenV.ptr rfl | exact RenV.sl rfl | exact RenV.mp rfl | exact RenV.it rfl | exact RenV.low (IdsLt.mp (by assumption)) | (refine RenV.pl ?_; (repeat' (first | exact Pl.v _ | exact Pl.junk | exact Pl.rd rfl _ | exact pl_nil | refine pl_cons ?_ ?_ | refine Pl.agg ?_ | refine Pl.tup ?_ | refine Pl.rp ?_ | refine Pl.fn ?_)); (first | done | fail)) | refine RenV.aggL ?_ | refine RenV.fnL ?_ | exact Nat.lt_of_sub_pos (by decide) | (simp; (first | done | fail)))); (first | done | fail)) (by (repeat' (first | exact trivial | exact RenV.ptr rfl | exact RenV.sl rfl | exact RenV.mp rfl | exact RenV.it rfl | exact RenV.low (IdsLt.mp (by assumption)) | exact RenV.low (.v _) | exact RenV.low (IdsLt.ptr (by assumption)) | (refine RenV.pl ?_; (repeat' (first | exact Pl.v _ | exact Pl.junk | exact Pl.rd rfl _ | exact pl_nil | refine pl_cons ?_ ?_ | refine Pl.agg ?_ | refine Pl.tup ?_ | refine Pl.rp ?_ | refine Pl.fn ?_)); (first | done | fail)) | refine RenV.fnL ?_ | refine RenV.aggL ?_ | refine And.intro ?_ ?_)); (first | done | fail)))
        · unfold rmG
          simp only [List.length_append, List.length_singleton, Nat.add_assoc, Nat.reduceAdd]
          exact Weak.grow
    · obtain rfl : i = P.length := by omega
      rw [List.take_length] at hlt hlr htl hH ⊢
      have hft : Fits 2000000 (rowsP P) := ⟨by omega, fun k => by
        by_cases hk : k < P.length
        · have := hps k
          rw [rowsP_get hk, rowR_len, data_len]; omega
        · rw [getD_none (by rw [rowsP_len]; omega)]; simp⟩
      have hle := lent_rm (xs := rowsP P) (a := .box false [.v (.slice none 0 0)]) (b := .box false [.sl 1 (H.length + 3) 0 P.length]) (c := .row false .str P) hH rfl
      rw [rowsP_len] at hle
      by_cases hok : MzOk (rowsP P)
      · have hd : decide (MzOk (rowsP P)) = true := decide_eq_true hok
        repeat' (first | (with_reducible first | refine AW.sreg envOk2 fun K hK => ?_ | refine AW.region envOk2 fun K hK => ?_ | refine vcL_nil ?_) | (with_reducible (first | refine vcL_cons fun K' hK' => ?_); simp only [isC, Bool.false_or, Bool.or_true, vAppend, elems, ↓reduceDIte, List.take_length, Nat.le_refl, List.drop_zero, vGuard, undef, Bool.not_eq_eq_eq_not, dstOk, vcOp, vcF, isPure, putS, vcCall, St.ev, St.put, lk, AVal.ofVal, initS, Nat.reduceLT, true_and, and_true, vBin, vUn, vPick, vConv, vPart, vLoad, vStore, vIdxA, vIdx, vFldA, vLen, vAlloc, vBuild, vBuildSl, partsA, fillA, decAll, AVal.flat, AVal.cell, cellsOk, setRange, ETy.enc, ETy.dec, ETy.sz, ETy.d, cond, Nat.reduceBEq, Nat.reduceAdd, Int.toNat_natCast, List.length_set, List.length_append, List.length_replicate, List.length_take, Nat.reduceSub, Nat.reduceEqDiff, get_loc, setBox_loc, next_eq, List.length_cons, List.length_nil, List.map_cons, List.map_nil, List.append_nil, List.nil_append, List.cons_append, List.set_cons_zero, List.set_cons_succ, getD_zero, getD_succ, List.getElem?_cons_succ, List.getElem?_cons_zero, List.take_succ_cons, List.take_zero, List.drop_succ_cons, List.all_cons, List.all_nil, Bool.and_true, Bool.true_and, Option.bind_some, Option.map_some, Option.map_none, decide_eq_true_eq, decide_eq_false_iff_not, ne_eq, Bool.not_eq_true, Bool.not_eq_false, Decidable.not_not, not_true_eq_false, not_false_eq_true, forall_const, false_implies, Bool.true_eq_false, Bool.false_eq_true, reduceCtorEq, decide_true, decide_false, Bool.not_true, Bool.not_false, if_true, if_false, Nat.zero_add, Nat.lt_irrefl, Value.oneCell', gt_iff_lt, Nat.reduceLeDiff, Nat.lt_add_one, vSealSl, wvar_1, wzero_1, wvar_2, wzero_2, wknd_2, wsn_2, wvar_3, wzero_3, wknd_3, wsn_3, wvar_4, wzero_4, wknd_4, wsn_4, wvar_5, wzero_5, wknd_5, wsn_5, wvar_9, wzero_9, wknd_9, wsn_9, wsl_27, wkn_27, wvar_27, wzero_27, wsl_46, wkn_46, wvar_46, wzero_46, wvar_51, wzero_51, wbld_51, wsl_84, wkn_84, wvar_84, wzero_84, wfld_51_0, hd]; try simp (disch := omega) only [wrap64]) | (with_reducible refine hK' _ ?_; clear hK' K') | (with_reducible refine hK _ ?_; clear hK K) | ((with_reducible show vCall _ (AVal.fn 76 _) _ _ _); refine vCall_pure (AC.lent0 (args' := [.agg [.rd (.sli .i64) (rowsP P)]]) ⟨LentV.aggL ⟨hle, trivial⟩, trivial⟩ (by (repeat' (first | exact NoRd.v _ | exact NoRd.sl | exact NoRd.mp | exact NoRd.tup nord_nil | refine NoRd.tup ?_ | refine NoRd.agg ?_ | exact nord_nil | refine nord_cons ?_ ?_)); (first | done | fail)) (is76w_ac _ hft _)) ?_) | (with_reducible first | refine And.intro (And.intro rfl rfl) ?_ | refine And.intro (by omega) ?_) | (with_reducible refine And.intro (fun hg => ?_) (fun hg => ?_) <;> first | simp only [eq_false hg, rsB] | simp only [eq_true hg, rsB] | simp only [hg, rsB]) | (with_reducible first | refine And.intro rfl (And.intro rfl rfl) | refine thenQ_n ?_ | refine thenQ_exit ?_ | refine thenQ_ret ?_ | refine midQ_ret ?_ | refine midQ_exit ?_ | refine blockQ_same ?_ | refine blockQ_ne (by decide) ?_ | refine blockQ_ret ?_ | refine blockQ_n ?_ | refine AW.exit ?_ | refine AW.block ?_ | refine AW.cond_t rfl ?_ | refine AW.cond_f rfl ?_ | refine AW.cond_dec rfl (fun hc => ?_) (fun hc => ?_)) | (with_reducible refine AW.cond rfl (fun hc => ?_) (fun hc => ?_) <;> try simp only [Bool.not_eq_eq_eq_not, Bool.not_true, Bool.not_false, decide_eq_true_eq, decide_eq_false_iff_not] at hc) | (with_reducible first | refine AW.seq ?_ | refine AW.skip ?_ | refine AW.ret ?_ | refine And.intro ?_ ?_) | (with_reducible intro hg; first | simp only [eq_false hg, rsB] | simp only [eq_true hg, rsB]) | (with_reducible refine retQ_drop ?_; simp only [vRes, packRes, vLoad, vPart, lk, cond, Nat.reduceBEq, get_loc, getD_zero, getD_succ, true_and, List.length_cons, List.length_nil, Nat.reduceAdd, Nat.reduceLT, Nat.reduceLeDiff, List.take_succ_cons, List.take_zero, List.drop_succ_cons, List.drop_zero, wvar_1, wzero_1, wvar_2, wzero_2, wknd_2, wsn_2, wvar_3, wzero_3, wknd_3, wsn_3, wvar_4, wzero_4, wknd_4, wsn_4, wvar_5, wzero_5, wknd_5, wsn_5, wvar_9, wzero_9, wknd_9, wsn_9, wsl_27, wkn_27, wvar_27, wzero_27, wsl_46, wkn_46, wvar_46, wzero_46, wvar_51, wzero_51, wbld_51, wsl_84, wkn_84, wvar_84, wzero_84, wfld_51_0]) )
        all_goals first
          | (exfalso; omega)
          | skip
        refine ⟨_, _, FinOk.keep (m := H.length) [3] (L := [.row false (.own .i64) (refs G.length (rowsP P))]) hB (by decide) (by (repeat' (first | exact trivial | exact RenB.plRow rfl | exact RenB.dead _ | exact RenB.ownKeep (by assumption) | exact RenB.ownSnoc (by assumption) rfl | exact RenB.ownAt (by assumption) (by assumption) rfl | exact RenB.own2 (by assumption) rfl rfl | exact RenB.map _ _ | exact RenB.iter rfl | refine And.intro ?_ ?_ | (refine RenB.plBox ?_; (repeat' (first | exact Pl.v _ | exact Pl.junk | exact Pl.rd rfl _ | exact pl_nil | refine pl_cons ?_ ?_ | refine Pl.agg ?_ | refine Pl.tup ?_ | refine Pl.rp ?_ | refine Pl.fn ?_)); (first | done | fail)) | refine RenB.of ?_ | exact RenV.ptr rfl | exact RenV.sl rfl | exact RenV.mp rfl | exact RenV.it rfl | exact RenV.low (IdsLt.mp (by assumption)) | (refine RenV.pl ?_; (repeat' (first | exact Pl.v _ | exact Pl.junk | exact Pl.rd rfl _ | exact pl_nil | refine pl_cons ?_ ?_ | refine Pl.agg ?_ | refine Pl.tup ?_ | refine Pl.rp ?_ | refine Pl.fn ?_)); (first | done | fail)) | refine RenV.aggL ?_ | refine RenV.fnL ?_ | exact Nat.lt_of_sub_pos (by decide) | (simp; (first | done | fail)))); (first | done | fail)) (RenV.tupL (cs' := [.agg [.sl 1 (H.length + 0) 0 P.length], .v (.bool true)]) ⟨RenV.aggL ⟨RenV.sl (j := 0) rfl, trivial⟩, RenV.low (.v _), trivial⟩) rfl, .inl ⟨_, hr1 hI hok, ?_, ?_⟩⟩
        · rw [Nat.add_zero, rowsP_len, hHl]
        · rw [← hH, List.append_assoc]
      · have hd : decide (MzOk (rowsP P)) = false := decide_eq_false hok
        repeat' (first | (with_reducible first | refine AW.sreg envOk2 fun K hK => ?_ | refine AW.region envOk2 fun K hK => ?_ | refine vcL_nil ?_) | (with_reducible (first | refine vcL_cons fun K' hK' => ?_); simp only [isC, Bool.false_or, Bool.or_true, vAppend, elems, ↓reduceDIte, List.take_length, Nat.le_refl, List.drop_zero, vGuard, undef, Bool.not_eq_eq_eq_not, dstOk, vcOp, vcF, isPure, putS, vcCall, St.ev, St.put, lk, AVal.ofVal, initS, Nat.reduceLT, true_and, and_true, vBin, vUn, vPick, vConv, vPart, vLoad, vStore, vIdxA, vIdx, vFldA, vLen, vAlloc, vBuild, vBuildSl, partsA, fillA, decAll, AVal.flat, AVal.cell, cellsOk, setRange, ETy.enc, ETy.dec, ETy.sz, ETy.d, cond, Nat.reduceBEq, Nat.reduceAdd, Int.toNat_natCast, List.length_set, List.length_append, List.length_replicate, List.length_take, Nat.reduceSub, Nat.reduceEqDiff, get_loc, setBox_loc, next_eq, List.length_cons, List.length_nil, List.map_cons, List.map_nil, List.append_nil, List.nil_append, List.cons_append, List.set_cons_zero, List.set_cons_succ, getD_zero, getD_succ, List.getElem?_cons_succ, List.getElem?_cons_zero, List.take_succ_cons, List.take_zero, List.drop_succ_cons, List.all_cons, List.all_nil, Bool.and_true, Bool.true_and, Option.bind_some, Option.map_some, Option.map_none, decide_eq_true_eq, decide_eq_false_iff_not, ne_eq, Bool.not_eq_true, Bool.not_eq_false, Decidable.not_not, not_true_eq_false, not_false_eq_true, forall_const, false_implies, Bool.true_eq_false, Bool.false_eq_true, reduceCtorEq, decide_true, decide_false, Bool.not_true, Bool.not_false, if_true, if_false, Nat.zero_add, Nat.lt_irrefl, Value.oneCell', gt_iff_lt, Nat.reduceLeDiff, Nat.lt_add_one, vSealSl, wvar_1, wzero_1, wvar_2, wzero_2, wknd_2, wsn_2, wvar_3, wzero_3, wknd_3, wsn_3, wvar_4, wzero_4, wknd_4, wsn_4, wvar_5, wzero_5, wknd_5, wsn_5, wvar_9, wzero_9, wknd_9, wsn_9, wsl_27, wkn_27, wvar_27, wzero_27, wsl_46, wkn_46, wvar_46, wzero_46, wvar_51, wzero_51, wbld_51, wsl_84, wkn_84, wvar_84, wzero_84, wfld_51_0, hd]; try simp (disch := omega) only [wrap64]) | (with_reducible refine hK' _ ?_; clear hK' K') | (with_reducible refine hK _ ?_; clear hK K) | ((with_reducible show vCall _ (AVal.fn 76 _) _ _ _); refine vCall_pure (AC.lent0 (args' := [.agg [.rd (.sli .i64) (rowsP P)]]) ⟨LentV.aggL ⟨hle, trivial⟩, trivial⟩ (by (repeat' (first | exact NoRd.v _ | exact NoRd.sl | exact NoRd.mp | exact NoRd.tup nord_nil | refine NoRd.tup ?_ | refine NoRd.agg ?_ | exact nord_nil | refine nord_cons ?_ ?_)); (first | done | fail)) (is76w_ac _ hft _)) ?_) | (with_reducible first | refine And.intro (And.intro rfl rfl) ?_ | refine And.intro (by omega) ?_) | (with_reducible refine And.intro (fun hg => ?_) (fun hg => ?_) <;> first | simp only [eq_false hg, rsB] | simp only [eq_true hg, rsB] | simp only [hg, rsB]) | (with_reducible first | refine And.intro rfl (And.intro rfl rfl) | refine thenQ_n ?_ | refine thenQ_exit ?_ | refine thenQ_ret ?_ | refine midQ_ret ?_ | refine midQ_exit ?_ | refine blockQ_same ?_ | refine blockQ_ne (by decide) ?_ | refine blockQ_ret ?_ | refine blockQ_n ?_ | refine AW.exit ?_ | refine AW.block ?_ | refine AW.cond_t rfl ?_ | refine AW.cond_f rfl ?_ | refine AW.cond_dec rfl (fun hc => ?_) (fun hc => ?_)) | (with_reducible refine AW.cond rfl (fun hc => ?_) (fun hc => ?_) <;> try simp only [Bool.not_eq_eq_eq_not, Bool.not_true, Bool.not_false, decide_eq_true_eq, decide_eq_false_iff_not] at hc) | (with_reducible first | refine AW.seq ?_ | refine AW.skip ?_ | refine AW.ret ?_ | refine And.intro ?_ ?_) | (with_reducible intro hg; first | simp only [eq_false hg, rsB] | simp only [eq_true hg, rsB]) | (with_reducible refine retQ_drop ?_; simp only [vRes, packRes, vLoad, vPart, lk, cond, Nat.reduceBEq, get_loc, getD_zero, getD_succ, true_and, List.length_cons, List.length_nil, Nat.reduceAdd, Nat.reduceLT, Nat.reduceLeDiff, List.take_succ_cons, List.take_zero, List.drop_succ_cons, List.drop_zero, wvar_1, wzero_1, wvar_2, wzero_2, wknd_2, wsn_2, wvar_3, wzero_3, wknd_3, wsn_3, wvar_4, wzero_4, wknd_4, wsn_4, wvar_5, wzero_5, wknd_5, wsn_5, wvar_9, wzero_9, wknd_9, wsn_9, wsl_27, wkn_27, wvar_27, wzero_27, wsl_46, wkn_46, wvar_46, wzero_46, wvar_51, wzero_51, wbld_51, wsl_84, wkn_84, wvar_84, wzero_84, wfld_51_0]) )
        all_goals first
          | (exfalso; omega)
          | skip
        subst hH
        exact ⟨_, _, FinOk.dropTo (K := Eng.rowsB (rowsP P)) hBG rfl (Plain.tup (plain_cons (Plain.agg (plain_cons (.v _) plain_nil)) (plain_cons (.v _) plain_nil))).ids, .inr ⟨hr2 (fun _ => hok), rfl, rfl⟩⟩
end Go.Proofs.YtlgagjboijkpgaaDoor
end
section
set_option linter.unusedSimpArgs false
set_option linter.unusedVariables false
set_option maxHeartbeats 1000000
namespace Go.Proofs.YtlgagjboijkpgaaDoor
open Go.Lib Go.Eng
theorem text74_ac (m : Mz) (hok : MzOk m) (H : List ABox) : AC Tryd.prog 74 [.rp [.rd (.sli .i64) (m)] 0] H (fun r H' => r = .v (.string (⟨(mzB m).toArray⟩)) ∧ H' = H) := by
  have hh := hok.1
  refine AC.enter envOk Tryd.func74 rfl (by decide) Tryd.ntmps74 Tryd.results74 (by simp) fun hB => ?_
  repeat' (first | (with_reducible first | refine AW.sreg envOk fun K hK => ?_ | refine AW.region envOk fun K hK => ?_ | refine vcL_nil ?_) | (with_reducible (first | refine vcL_cons fun K' hK' => ?_); simp only [isC, Bool.false_or, Bool.or_true, vAppend, elems, ↓reduceDIte, List.take_length, Nat.le_refl, List.drop_zero, vGuard, undef, Bool.not_eq_eq_eq_not, dstOk, vcOp, vcF, isPure, putS, vcCall, St.ev, St.put, lk, AVal.ofVal, initS, Nat.reduceLT, true_and, and_true, vBin, vConv, vPart, vLoad, vIdxA, vFldA, vLen, vNil, vBuildSl, partsA, fillA, decAll, AVal.flat, AVal.cell, cellsOk, setRange, ETy.enc, ETy.dec, ETy.sz, ETy.d, cond, Nat.reduceBEq, Nat.reduceAdd, Int.toNat_natCast, List.length_set, List.length_append, List.length_replicate, List.length_take, Nat.reduceSub, Nat.reduceEqDiff, get_loc, setBox_loc, next_eq, List.length_cons, List.length_nil, List.map_cons, List.map_nil, List.append_nil, List.nil_append, List.cons_append, List.set_cons_zero, List.set_cons_succ, getD_zero, getD_succ, List.getElem?_cons_succ, List.getElem?_cons_zero, List.take_succ_cons, List.take_zero, List.drop_succ_cons, List.all_cons, List.all_nil, Bool.and_true, Bool.true_and, Option.bind_some, Option.map_some, Option.map_none, decide_eq_true_eq, decide_eq_false_iff_not, ne_eq, Bool.not_eq_true, Bool.not_eq_false, Decidable.not_not, not_true_eq_false, not_false_eq_true, forall_const, false_implies, Bool.true_eq_false, Bool.false_eq_true, reduceCtorEq, decide_true, decide_false, Bool.not_true, Bool.not_false, if_true, if_false, Nat.zero_add, Nat.lt_irrefl, Value.oneCell', gt_iff_lt, Nat.reduceLeDiff, Nat.lt_add_one, vSealSl, vvar_1, vzero_1, vvar_2, vzero_2, vknd_2, vsn_2, vvar_3, vzero_3, vknd_3, vsn_3, vvar_4, vzero_4, vknd_4, vsn_4, vvar_5, vzero_5, vknd_5, vsn_5, vvar_9, vzero_9, vknd_9, vsn_9, vsl_27, vkn_27, vvar_27, vzero_27, vsl_46, vkn_46, vvar_46, vzero_46, vvar_51, vzero_51, vbld_51, vvar_90, vzero_90, vsl_101, vkn_101, vvar_101, vzero_101, vbyt_101, vfld_51_0]; try simp (disch := omega) only [wrap64]) | (with_reducible refine hK' _ ?_; clear hK' K') | (with_reducible refine hK _ ?_; clear hK K) | (with_reducible first | refine AW.mid (x := .seq (.region 2 _ _) _) (⟨64, [(3, .rd (.int .u8) (bI (mzTo m m.length)))], H, [.dead]⟩ : St) ?_ ?_ | refine And.intro (And.intro rfl rfl) ?_ | refine And.intro (by omega) ?_) | (with_reducible refine And.intro (fun hg => ?_) (fun hg => ?_) <;> first | simp only [eq_false hg, rsB] | simp only [eq_true hg, rsB] | simp only [hg, rsB]) | (with_reducible first | refine And.intro rfl (And.intro rfl rfl) | refine thenQ_n ?_ | refine thenQ_exit ?_ | refine thenQ_ret ?_ | refine midQ_ret ?_ | refine midQ_exit ?_ | refine blockQ_same ?_ | refine blockQ_ne (by decide) ?_ | refine blockQ_ret ?_ | refine blockQ_n ?_ | refine AW.exit ?_ | refine AW.block ?_ | refine AW.cond_t rfl ?_ | refine AW.cond_f rfl ?_ | refine AW.cond_dec rfl (fun hc => ?_) (fun hc => ?_)) | (with_reducible refine AW.cond rfl (fun hc => ?_) (fun hc => ?_) <;> try simp only [Bool.not_eq_eq_eq_not, Bool.not_true, Bool.not_false, decide_eq_true_eq, decide_eq_false_iff_not] at hc) | (with_reducible first | refine AW.seq ?_ | refine AW.skip ?_ | refine AW.ret ?_ | refine And.intro ?_ ?_) | (with_reducible intro hg; first | simp only [eq_false hg, rsB] | simp only [eq_true hg, rsB]) | (with_reducible refine retQ_drop ?_; simp only [vRes, packRes, vLoad, vPart, lk, cond, Nat.reduceBEq, get_loc, getD_zero, getD_succ, true_and, List.length_cons, List.length_nil, Nat.reduceAdd, Nat.reduceLT, Nat.reduceLeDiff, List.take_succ_cons, List.take_zero, List.drop_succ_cons, List.drop_zero, vvar_1, vzero_1, vvar_2, vzero_2, vknd_2, vsn_2, vvar_3, vzero_3, vknd_3, vsn_3, vvar_4, vzero_4, vknd_4, vsn_4, vvar_5, vzero_5, vknd_5, vsn_5, vvar_9, vzero_9, vknd_9, vsn_9, vsl_27, vkn_27, vvar_27, vzero_27, vsl_46, vkn_46, vvar_46, vzero_46, vvar_51, vzero_51, vbld_51, vvar_90, vzero_90, vsl_101, vkn_101, vvar_101, vzero_101, vbyt_101, vfld_51_0]) )
  rotate_left
  all_goals first
    | exact bI_rng _
    | (rw [bytes_back]
       exact ⟨_, _, FinOk.drop hB (Pl.ids (by (repeat' (first | exact Pl.v _ | exact Pl.junk | exact Pl.rd rfl _ | exact pl_nil | refine pl_cons ?_ ?_ | refine Pl.agg ?_ | refine Pl.tup ?_ | refine Pl.rp ?_ | refine Pl.fn ?_)); (first | done | fail))), rfl, rfl⟩)
    | skip
  refine AW.loop (fun y : Nat => (⟨64, [(0, .rp [.rd (.sli .i64) (m)] 0), (3, .sl 1 (H.length + 0) 0 ((mzTo m y).length)), (4, .v (.int .i64 ((y : Int))))], H, [.row false (.int .u8) (bI (mzTo m y))]⟩ : St)) (fun y => y ≤ m.length) (fun y => m.length - y) 0 (Nat.zero_le _) ?_ ?_
  · rw [mzTo_zero]; exact (Weak.slots (by repeat' first | exact trivial | exact ⟨rfl, trivial⟩ | refine ⟨rfl, ?_⟩))
  intro y hy
  have hl0 := mzTo_len hok y hy
  have hbl := bI_len (mzTo m y)
  have htk : (bI (mzTo m y)).take (mzTo m y).length = bI (mzTo m y) := List.take_of_length_le (by omega)
  by_cases hlt : y < m.length
  · have hrow := hok.row hlt
    have hpl := preB_len hok hy
    repeat' (first | (with_reducible first | refine AW.sreg envOk fun K hK => ?_ | refine AW.region envOk fun K hK => ?_ | refine vcL_nil ?_) | (with_reducible (first | refine vcL_cons fun K' hK' => ?_); simp only [isC, Bool.false_or, Bool.or_true, vAppend, elems, ↓reduceDIte, List.take_length, Nat.le_refl, List.drop_zero, vGuard, undef, Bool.not_eq_eq_eq_not, dstOk, vcOp, vcF, isPure, putS, vcCall, St.ev, St.put, lk, AVal.ofVal, initS, Nat.reduceLT, true_and, and_true, vBin, vConv, vPart, vLoad, vIdxA, vFldA, vLen, vNil, vBuildSl, partsA, fillA, decAll, AVal.flat, AVal.cell, cellsOk, setRange, ETy.enc, ETy.dec, ETy.sz, ETy.d, cond, Nat.reduceBEq, Nat.reduceAdd, Int.toNat_natCast, List.length_set, List.length_append, List.length_replicate, List.length_take, Nat.reduceSub, Nat.reduceEqDiff, get_loc, setBox_loc, next_eq, List.length_cons, List.length_nil, List.map_cons, List.map_nil, List.append_nil, List.nil_append, List.cons_append, List.set_cons_zero, List.set_cons_succ, getD_zero, getD_succ, List.getElem?_cons_succ, List.getElem?_cons_zero, List.take_succ_cons, List.take_zero, List.drop_succ_cons, List.all_cons, List.all_nil, Bool.and_true, Bool.true_and, Option.bind_some, Option.map_some, Option.map_none, decide_eq_true_eq, decide_eq_false_iff_not, ne_eq, Bool.not_eq_true, Bool.not_eq_false, Decidable.not_not, not_true_eq_false, not_false_eq_true, forall_const, false_implies, Bool.true_eq_false, Bool.false_eq_true, reduceCtorEq, decide_true, decide_false, Bool.not_true, Bool.not_false, if_true, if_false, Nat.zero_add, Nat.lt_irrefl, Value.oneCell', gt_iff_lt, Nat.reduceLeDiff, Nat.lt_add_one, vSealSl, vvar_1, vzero_1, vvar_2, vzero_2, vknd_2, vsn_2, vvar_3, vzero_3, vknd_3, vsn_3, vvar_4, vzero_4, vknd_4, vsn_4, vvar_5, vzero_5, vknd_5, vsn_5, vvar_9, vzero_9, vknd_9, vsn_9, vsl_27, vkn_27, vvar_27, vzero_27, vsl_46, vkn_46, vvar_46, vzero_46, vvar_51, vzero_51, vbld_51, vvar_90, vzero_90, vsl_101, vkn_101, vvar_101, vzero_101, vbyt_101, vfld_51_0, hbl, htk]; try simp (disch := omega) only [wrap64]) | (with_reducible refine hK' _ ?_; clear hK' K') | (with_reducible refine hK _ ?_; clear hK K) | (with_reducible first | refine And.intro (And.intro rfl rfl) ?_ | refine And.intro (by omega) ?_) | (with_reducible refine And.intro (fun hg => ?_) (fun hg => ?_) <;> first | simp only [eq_false hg, rsB] | simp only [eq_true hg, rsB] | simp only [hg, rsB]) | (with_reducible first | refine And.intro rfl (And.intro rfl rfl) | refine thenQ_n ?_ | refine thenQ_exit ?_ | refine thenQ_ret ?_ | refine midQ_ret ?_ | refine midQ_exit ?_ | refine blockQ_same ?_ | refine blockQ_ne (by decide) ?_ | refine blockQ_ret ?_ | refine blockQ_n ?_ | refine AW.exit ?_ | refine AW.block ?_ | refine AW.cond_t rfl ?_ | refine AW.cond_f rfl ?_ | refine AW.cond_dec rfl (fun hc => ?_) (fun hc => ?_)) | (with_reducible refine AW.cond rfl (fun hc => ?_) (fun hc => ?_) <;> try simp only [Bool.not_eq_eq_eq_not, Bool.not_true, Bool.not_false, decide_eq_true_eq, decide_eq_false_iff_not] at hc) | (with_reducible first | refine AW.seq ?_ | refine AW.skip ?_ | refine AW.ret ?_ | refine And.intro ?_ ?_) | (with_reducible intro hg; first | simp only [eq_false hg, rsB] | simp only [eq_true hg, rsB]) | (with_reducible refine retQ_drop ?_; simp only [vRes, packRes, vLoad, vPart, lk, cond, Nat.reduceBEq, get_loc, getD_zero, getD_succ, true_and, List.length_cons, List.length_nil, Nat.reduceAdd, Nat.reduceLT, Nat.reduceLeDiff, List.take_succ_cons, List.take_zero, List.drop_succ_cons, List.drop_zero, vvar_1, vzero_1, vvar_2, vzero_2, vknd_2, vsn_2, vvar_3, vzero_3, vknd_3, vsn_3, vvar_4, vzero_4, vknd_4, vsn_4, vvar_5, vzero_5, vknd_5, vsn_5, vvar_9, vzero_9, vknd_9, vsn_9, vsl_27, vkn_27, vvar_27, vzero_27, vsl_46, vkn_46, vvar_46, vzero_46, vvar_51, vzero_51, vbld_51, vvar_90, vzero_90, vsl_101, vkn_101, vvar_101, vzero_101, vbyt_101, vfld_51_0]) )
    all_goals first
      | (exfalso; omega)
      | skip
    all_goals
      refine AW.loop (fun x : Nat => (⟨64, [(0, .rp [.rd (.sli .i64) (m)] 0), (3, .sl 1 (H.length + 0) 0 ((preB m y ++ rowB (m.getD y []) x).length)), (4, .v (.int .i64 ((y : Int)))), (5, .v (.int .i64 ((x : Int))))], H, [.row false (.int .u8) (bI (preB m y ++ rowB (m.getD y []) x))]⟩ : St)) (fun x => x ≤ (m.getD y []).length) (fun x => (m.getD y []).length - x) 0 (Nat.zero_le _) ?_ ?_
      · first
        | (obtain rfl : y = 0 := by omega
           rw [show preB m 0 ++ rowB (m.getD 0 []) 0 = mzTo m 0 by simp [preB, rowB_zero, mzTo_zero]]
           exact (Weak.slots (by repeat' first | exact trivial | exact ⟨rfl, trivial⟩ | refine ⟨rfl, ?_⟩)))
        | (rw [show preB m y ++ rowB (m.getD y []) 0 = mzTo m y ++ [47] by (simp [preB, rowB_zero]; omega), List.length_append, bI_snoc]
           exact (Weak.sel [2] hB (by decide) (by (repeat' (first | exact trivial | exact RenB.plRow rfl | exact RenB.dead _ | exact RenB.map _ _ | exact RenB.iter rfl | refine And.intro ?_ ?_ | (refine RenB.plBox ?_; (repeat' (first | exact Pl.v _ | exact Pl.junk | exact Pl.rd rfl _ | exact pl_nil | refine pl_cons ?_ ?_ | refine Pl.agg ?_ | refine Pl.tup ?_ | refine Pl.rp ?_ | refine Pl.fn ?_)); (first | done | fail)) | refine RenB.of ?_ | exact RenV.ptr rfl | exact RenV.sl rfl | exact RenV.mp rfl | exact RenV.it rfl | exact RenV.low (IdsLt.mp (by assumption)) | (refine RenV.pl ?_; (repeat' (first | exact Pl.v _ | exact Pl.junk | exact Pl.rd rfl _ | exact pl_nil | refine pl_cons ?_ ?_ | refine Pl.agg ?_ | refine Pl.tup ?_ | refine Pl.rp ?_ | refine Pl.fn ?_)); (first | done | fail)) | refine RenV.aggL ?_ | refine RenV.fnL ?_ | exact Nat.lt_of_sub_pos (by decide) | (simp; (first | done | fail)))); (first | done | fail)) (by (repeat' (first | exact trivial | exact RenV.ptr rfl | exact RenV.sl rfl | exact RenV.mp rfl | exact RenV.it rfl | exact RenV.low (IdsLt.mp (by assumption)) | exact RenV.low (.v _) | exact RenV.low (IdsLt.ptr (by assumption)) | (refine RenV.pl ?_; (repeat' (first | exact Pl.v _ | exact Pl.junk | exact Pl.rd rfl _ | exact pl_nil | refine pl_cons ?_ ?_ | refine Pl.agg ?_ | refine Pl.tup ?_ | refine Pl.rp ?_ | refine Pl.fn ?_)); (first | done | fail)) | refine RenV.fnL ?_ | refine RenV.aggL ?_ | refine And.intro ?_ ?_)); (first | done | fail))))
      intro x hx
      have hbl2 := bI_len (preB m y ++ rowB (m.getD y []) x)
      have hle2 : (preB m y ++ rowB (m.getD y []) x).length ≤ 1000 := by
        rw [List.length_append, rowB_len hx]; omega
      have htk2 : (bI (preB m y ++ rowB (m.getD y []) x)).take (preB m y ++ rowB (m.getD y []) x).length = bI (preB m y ++ rowB (m.getD y []) x) := List.take_of_length_le (by omega)
      by_cases hlx : x < (m.getD y []).length
      · have hcell := hrow.2 x hlx
        generalize hL : preB m y ++ rowB (m.getD y []) x = L at hbl2 hle2 htk2 ⊢
        have hN : preB m y ++ rowB (m.getD y []) (x + 1) = L ++ [cellB ((m.getD y []).getD x 0)] := by rw [rowB_succ hlx, ← List.append_assoc, hL]
        repeat' (first | (with_reducible first | refine AW.sreg envOk fun K hK => ?_ | refine AW.region envOk fun K hK => ?_ | refine vcL_nil ?_) | (with_reducible (first | refine vcL_cons fun K' hK' => ?_); simp only [isC, Bool.false_or, Bool.or_true, vAppend, elems, ↓reduceDIte, List.take_length, Nat.le_refl, List.drop_zero, vGuard, undef, Bool.not_eq_eq_eq_not, dstOk, vcOp, vcF, isPure, putS, vcCall, St.ev, St.put, lk, AVal.ofVal, initS, Nat.reduceLT, true_and, and_true, vBin, vConv, vPart, vLoad, vIdxA, vFldA, vLen, vNil, vBuildSl, partsA, fillA, decAll, AVal.flat, AVal.cell, cellsOk, setRange, ETy.enc, ETy.dec, ETy.sz, ETy.d, cond, Nat.reduceBEq, Nat.reduceAdd, Int.toNat_natCast, List.length_set, List.length_append, List.length_replicate, List.length_take, Nat.reduceSub, Nat.reduceEqDiff, get_loc, setBox_loc, next_eq, List.length_cons, List.length_nil, List.map_cons, List.map_nil, List.append_nil, List.nil_append, List.cons_append, List.set_cons_zero, List.set_cons_succ, getD_zero, getD_succ, List.getElem?_cons_succ, List.getElem?_cons_zero, List.take_succ_cons, List.take_zero, List.drop_succ_cons, List.all_cons, List.all_nil, Bool.and_true, Bool.true_and, Option.bind_some, Option.map_some, Option.map_none, decide_eq_true_eq, decide_eq_false_iff_not, ne_eq, Bool.not_eq_true, Bool.not_eq_false, Decidable.not_not, not_true_eq_false, not_false_eq_true, forall_const, false_implies, Bool.true_eq_false, Bool.false_eq_true, reduceCtorEq, decide_true, decide_false, Bool.not_true, Bool.not_false, if_true, if_false, Nat.zero_add, Nat.lt_irrefl, Value.oneCell', gt_iff_lt, Nat.reduceLeDiff, Nat.lt_add_one, vSealSl, vvar_1, vzero_1, vvar_2, vzero_2, vknd_2, vsn_2, vvar_3, vzero_3, vknd_3, vsn_3, vvar_4, vzero_4, vknd_4, vsn_4, vvar_5, vzero_5, vknd_5, vsn_5, vvar_9, vzero_9, vknd_9, vsn_9, vsl_27, vkn_27, vvar_27, vzero_27, vsl_46, vkn_46, vvar_46, vzero_46, vvar_51, vzero_51, vbld_51, vvar_90, vzero_90, vsl_101, vkn_101, vvar_101, vzero_101, vbyt_101, vfld_51_0, hbl2, htk2]; try simp (disch := omega) only [wrap64]) | (with_reducible refine hK' _ ?_; clear hK' K') | (with_reducible refine hK _ ?_; clear hK K) | (with_reducible first | refine And.intro (And.intro rfl rfl) ?_ | refine And.intro (by omega) ?_) | (with_reducible refine And.intro (fun hg => ?_) (fun hg => ?_) <;> first | simp only [eq_false hg, rsB] | simp only [eq_true hg, rsB] | simp only [hg, rsB]) | (with_reducible first | refine And.intro rfl (And.intro rfl rfl) | refine thenQ_n ?_ | refine thenQ_exit ?_ | refine thenQ_ret ?_ | refine midQ_ret ?_ | refine midQ_exit ?_ | refine blockQ_same ?_ | refine blockQ_ne (by decide) ?_ | refine blockQ_ret ?_ | refine blockQ_n ?_ | refine AW.exit ?_ | refine AW.block ?_ | refine AW.cond_t rfl ?_ | refine AW.cond_f rfl ?_ | refine AW.cond_dec rfl (fun hc => ?_) (fun hc => ?_)) | (with_reducible refine AW.cond rfl (fun hc => ?_) (fun hc => ?_) <;> try simp only [Bool.not_eq_eq_eq_not, Bool.not_true, Bool.not_false, decide_eq_true_eq, decide_eq_false_iff_not] at hc) | (with_reducible first | refine AW.seq ?_ | refine AW.skip ?_ | refine AW.ret ?_ | refine And.intro ?_ ?_) | (with_reducible intro hg; first | simp only [eq_false hg, rsB] | simp only [eq_true hg, rsB]) | (with_reducible refine retQ_drop ?_; simp only [vRes, packRes, vLoad, vPart, lk, cond, Nat.reduceBEq, get_loc, getD_zero, getD_succ, true_and, List.length_cons, List.length_nil, Nat.reduceAdd, Nat.reduceLT, Nat.reduceLeDiff, List.take_succ_cons, List.take_zero, List.drop_succ_cons, List.drop_zero, vvar_1, vzero_1, vvar_2, vzero_2, vknd_2, vsn_2, vvar_3, vzero_3, vknd_3, vsn_3, vvar_4, vzero_4, vknd_4, vsn_4, vvar_5, vzero_5, vknd_5, vsn_5, vvar_9, vzero_9, vknd_9, vsn_9, vsl_27, vkn_27, vvar_27, vzero_27, vsl_46, vkn_46, vvar_46, vzero_46, vvar_51, vzero_51, vbld_51, vvar_90, vzero_90, vsl_101, vkn_101, vvar_101, vzero_101, vbyt_101, vfld_51_0]) )
        all_goals first
          | (exfalso; omega)
          | (refine ⟨x + 1, by omega, by omega, ?_⟩
             rw [hN, List.length_append, bI_snoc]
             first
               | (rw [show ((cellB ((m.getD y []).getD x 0)).toNat : Int) = 35 by (rw [show (m.getD y []).getD x 0 = 0 by assumption]; rfl)]; exact (Weak.sel [2] hB (by decide) (by (repeat' (first | exact trivial | exact RenB.plRow rfl | exact RenB.dead _ | exact RenB.map _ _ | exact RenB.iter rfl | refine And.intro ?_ ?_ | (refine RenB.plBox ?_; (repeat' (first | exact Pl.v _ | exact Pl.junk | exact Pl.rd rfl _ | exact pl_nil | refine pl_cons ?_ ?_ | refine Pl.agg ?_ | refine Pl.tup ?_ | refine Pl.rp ?_ | refine Pl.fn ?_)); (first | done | fail)) | refine RenB.of ?_ | exact RenV.ptr rfl | exact RenV.sl rfl | exact RenV.mp rfl | exact RenV.it rfl | exact RenV.low (IdsLt.mp (by assumption)) | (refine RenV.pl ?_; (repeat' (first | exact Pl.v _ | exact Pl.junk | exact Pl.rd rfl _ | exact pl_nil | refine pl_cons ?_ ?_ | refine Pl.agg ?_ | refine Pl.tup ?_ | refine Pl.rp ?_ | refine Pl.fn ?_)); (first | done | fail)) | refine RenV.aggL ?_ | refine RenV.fnL ?_ | exact Nat.lt_of_sub_pos (by decide) | (simp; (first | done | fail)))); (first | done | fail)) (by (repeat' (first | exact trivial | exact RenV.ptr rfl | exact RenV.sl rfl | exact RenV.mp rfl | exact RenV.it rfl | exact RenV.low (IdsLt.mp (by assumption)) | exact RenV.low (.v _) | exact RenV.low (IdsLt.ptr (by assumption)) | (refine RenV.pl ?_; (repeat' (first | exact Pl.v _ | exact Pl.junk | exact Pl.rd rfl _ | exact pl_nil | refine pl_cons ?_ ?_ | refine Pl.agg ?_ | refine Pl.tup ?_ | refine Pl.rp ?_ | refine Pl.fn ?_)); (first | done | fail)) | refine RenV.fnL ?_ | refine RenV.aggL ?_ | refine And.intro ?_ ?_)); (first | done | fail))))
               | (rw [cellB_at hcell (by assumption), wrap8 (z := 48 + (m.getD y []).getD x 0) (by omega)]; exact (Weak.sel [2] hB (by decide) (by (repeat' (first | exact trivial | exact RenB.plRow rfl | exact RenB.dead _ | exact RenB.map _ _ | exact RenB.iter rfl | refine And.intro ?_ ?_ | (refine RenB.plBox ?_; (repeat' (first | exact Pl.v _ | exact Pl.junk | exact Pl.rd rfl _ | exact pl_nil | refine pl_cons ?_ ?_ | refine Pl.agg ?_ | refine Pl.tup ?_ | refine Pl.rp ?_ | refine Pl.fn ?_)); (first | done | fail)) | refine RenB.of ?_ | exact RenV.ptr rfl | exact RenV.sl rfl | exact RenV.mp rfl | exact RenV.it rfl | exact RenV.low (IdsLt.mp (by assumption)) | (refine RenV.pl ?_; (repeat' (first | exact Pl.v _ | exact Pl.junk | exact Pl.rd rfl _ | exact pl_nil | refine pl_cons ?_ ?_ | refine Pl.agg ?_ | refine Pl.tup ?_ | refine Pl.rp ?_ | refine Pl.fn ?_)); (first | done | fail)) | refine RenV.aggL ?_ | refine RenV.fnL ?_ | exact Nat.lt_of_sub_pos (by decide) | (simp; (first | done | fail)))); (first | done | fail)) (by (repeat' (first | exact trivial | exact RenV.ptr rfl | exact RenV.sl rfl | exact RenV.mp rfl | exact RenV.it rfl | exact RenV.low (IdsLt.mp (by assumption)) | exact RenV.low (.v _) | exact RenV.low (IdsLt.ptr (by assumption)) | (refine RenV.pl ?_; (repeat' (first | exact Pl.v _ | exact Pl.junk | exact Pl.rd rfl _ | exact pl_nil | refine pl_cons ?_ ?_ | refine Pl.agg ?_ | refine Pl.tup ?_ | refine Pl.rp ?_ | refine Pl.fn ?_)); (first | done | fail)) | refine RenV.fnL ?_ | refine RenV.aggL ?_ | refine And.intro ?_ ?_)); (first | done | fail))))
               | fail)
          | fail
      · obtain rfl : x = (m.getD y []).length := by omega
        repeat' (first | (with_reducible first | refine AW.sreg envOk fun K hK => ?_ | refine AW.region envOk fun K hK => ?_ | refine vcL_nil ?_) | (with_reducible (first | refine vcL_cons fun K' hK' => ?_); simp only [isC, Bool.false_or, Bool.or_true, vAppend, elems, ↓reduceDIte, List.take_length, Nat.le_refl, List.drop_zero, vGuard, undef, Bool.not_eq_eq_eq_not, dstOk, vcOp, vcF, isPure, putS, vcCall, St.ev, St.put, lk, AVal.ofVal, initS, Nat.reduceLT, true_and, and_true, vBin, vConv, vPart, vLoad, vIdxA, vFldA, vLen, vNil, vBuildSl, partsA, fillA, decAll, AVal.flat, AVal.cell, cellsOk, setRange, ETy.enc, ETy.dec, ETy.sz, ETy.d, cond, Nat.reduceBEq, Nat.reduceAdd, Int.toNat_natCast, List.length_set, List.length_append, List.length_replicate, List.length_take, Nat.reduceSub, Nat.reduceEqDiff, get_loc, setBox_loc, next_eq, List.length_cons, List.length_nil, List.map_cons, List.map_nil, List.append_nil, List.nil_append, List.cons_append, List.set_cons_zero, List.set_cons_succ, getD_zero, getD_succ, List.getElem?_cons_succ, List.getElem?_cons_zero, List.take_succ_cons, List.take_zero, List.drop_succ_cons, List.all_cons, List.all_nil, Bool.and_true, Bool.true_and, Option.bind_some, Option.map_some, Option.map_none, decide_eq_true_eq, decide_eq_false_iff_not, ne_eq, Bool.not_eq_true, Bool.not_eq_false, Decidable.not_not, not_true_eq_false, not_false_eq_true, forall_const, false_implies, Bool.true_eq_false, Bool.false_eq_true, reduceCtorEq, decide_true, decide_false, Bool.not_true, Bool.not_false, if_true, if_false, Nat.zero_add, Nat.lt_irrefl, Value.oneCell', gt_iff_lt, Nat.reduceLeDiff, Nat.lt_add_one, vSealSl, vvar_1, vzero_1, vvar_2, vzero_2, vknd_2, vsn_2, vvar_3, vzero_3, vknd_3, vsn_3, vvar_4, vzero_4, vknd_4, vsn_4, vvar_5, vzero_5, vknd_5, vsn_5, vvar_9, vzero_9, vknd_9, vsn_9, vsl_27, vkn_27, vvar_27, vzero_27, vsl_46, vkn_46, vvar_46, vzero_46, vvar_51, vzero_51, vbld_51, vvar_90, vzero_90, vsl_101, vkn_101, vvar_101, vzero_101, vbyt_101, vfld_51_0]; try simp (disch := omega) only [wrap64]) | (with_reducible refine hK' _ ?_; clear hK' K') | (with_reducible refine hK _ ?_; clear hK K) | (with_reducible first | refine And.intro (And.intro rfl rfl) ?_ | refine And.intro (by omega) ?_) | (with_reducible refine And.intro (fun hg => ?_) (fun hg => ?_) <;> first | simp only [eq_false hg, rsB] | simp only [eq_true hg, rsB] | simp only [hg, rsB]) | (with_reducible first | refine And.intro rfl (And.intro rfl rfl) | refine thenQ_n ?_ | refine thenQ_exit ?_ | refine thenQ_ret ?_ | refine midQ_ret ?_ | refine midQ_exit ?_ | refine blockQ_same ?_ | refine blockQ_ne (by decide) ?_ | refine blockQ_ret ?_ | refine blockQ_n ?_ | refine AW.exit ?_ | refine AW.block ?_ | refine AW.cond_t rfl ?_ | refine AW.cond_f rfl ?_ | refine AW.cond_dec rfl (fun hc => ?_) (fun hc => ?_)) | (with_reducible refine AW.cond rfl (fun hc => ?_) (fun hc => ?_) <;> try simp only [Bool.not_eq_eq_eq_not, Bool.not_true, Bool.not_false, decide_eq_true_eq, decide_eq_false_iff_not] at hc) | (with_reducible first | refine AW.seq ?_ | refine AW.skip ?_ | refine AW.ret ?_ | refine And.intro ?_ ?_) | (with_reducible intro hg; first | simp only [eq_false hg, rsB] | simp only [eq_true hg, rsB]) | (with_reducible refine retQ_drop ?_; simp only [vRes, packRes, vLoad, vPart, lk, cond, Nat.reduceBEq, get_loc, getD_zero, getD_succ, true_and, List.length_cons, List.length_nil, Nat.reduceAdd, Nat.reduceLT, Nat.reduceLeDiff, List.take_succ_cons, List.take_zero, List.drop_succ_cons, List.drop_zero, vvar_1, vzero_1, vvar_2, vzero_2, vknd_2, vsn_2, vvar_3, vzero_3, vknd_3, vsn_3, vvar_4, vzero_4, vknd_4, vsn_4, vvar_5, vzero_5, vknd_5, vsn_5, vvar_9, vzero_9, vknd_9, vsn_9, vsl_27, vkn_27, vvar_27, vzero_27, vsl_46, vkn_46, vvar_46, vzero_46, vvar_51, vzero_51, vbld_51, vvar_90, vzero_90, vsl_101, vkn_101, vvar_101, vzero_101, vbyt_101, vfld_51_0]) )
        all_goals first
          | (exfalso; omega)
          | (refine ⟨y + 1, by omega, by omega, ?_⟩
             rw [mzTo_succ hlt, List.length_append]
             exact (Weak.slots (by repeat' first | exact trivial | exact ⟨rfl, trivial⟩ | refine ⟨rfl, ?_⟩)))
          | fail
  · obtain rfl : y = m.length := by omega
    repeat' (first | (with_reducible first | refine AW.sreg envOk fun K hK => ?_ | refine AW.region envOk fun K hK => ?_ | refine vcL_nil ?_) | (with_reducible (first | refine vcL_cons fun K' hK' => ?_); simp only [isC, Bool.false_or, Bool.or_true, vAppend, elems, ↓reduceDIte, List.take_length, Nat.le_refl, List.drop_zero, vGuard, undef, Bool.not_eq_eq_eq_not, dstOk, vcOp, vcF, isPure, putS, vcCall, St.ev, St.put, lk, AVal.ofVal, initS, Nat.reduceLT, true_and, and_true, vBin, vConv, vPart, vLoad, vIdxA, vFldA, vLen, vNil, vBuildSl, partsA, fillA, decAll, AVal.flat, AVal.cell, cellsOk, setRange, ETy.enc, ETy.dec, ETy.sz, ETy.d, cond, Nat.reduceBEq, Nat.reduceAdd, Int.toNat_natCast, List.length_set, List.length_append, List.length_replicate, List.length_take, Nat.reduceSub, Nat.reduceEqDiff, get_loc, setBox_loc, next_eq, List.length_cons, List.length_nil, List.map_cons, List.map_nil, List.append_nil, List.nil_append, List.cons_append, List.set_cons_zero, List.set_cons_succ, getD_zero, getD_succ, List.getElem?_cons_succ, List.getElem?_cons_zero, List.take_succ_cons, List.take_zero, List.drop_succ_cons, List.all_cons, List.all_nil, Bool.and_true, Bool.true_and, Option.bind_some, Option.map_some, Option.map_none, decide_eq_true_eq, decide_eq_false_iff_not, ne_eq, Bool.not_eq_true, Bool.not_eq_false, Decidable.not_not, not_true_eq_false, not_false_eq_true, forall_const, false_implies, Bool.true_eq_false, Bool.false_eq_true, reduceCtorEq, decide_true, decide_false, Bool.not_true, Bool.not_false, if_true, if_false, Nat.zero_add, Nat.lt_irrefl, Value.oneCell', gt_iff_lt, Nat.reduceLeDiff, Nat.lt_add_one, vSealSl, vvar_1, vzero_1, vvar_2, vzero_2, vknd_2, vsn_2, vvar_3, vzero_3, vknd_3, vsn_3, vvar_4, vzero_4, vknd_4, vsn_4, vvar_5, vzero_5, vknd_5, vsn_5, vvar_9, vzero_9, vknd_9, vsn_9, vsl_27, vkn_27, vvar_27, vzero_27, vsl_46, vkn_46, vvar_46, vzero_46, vvar_51, vzero_51, vbld_51, vvar_90, vzero_90, vsl_101, vkn_101, vvar_101, vzero_101, vbyt_101, vfld_51_0, hbl, htk]; try simp (disch := omega) only [wrap64]) | (with_reducible refine hK' _ ?_; clear hK' K') | (with_reducible refine hK _ ?_; clear hK K) | (with_reducible first | refine And.intro (And.intro rfl rfl) ?_ | refine And.intro (by omega) ?_) | (with_reducible refine And.intro (fun hg => ?_) (fun hg => ?_) <;> first | simp only [eq_false hg, rsB] | simp only [eq_true hg, rsB] | simp only [hg, rsB]) | (with_reducible first | refine And.intro rfl (And.intro rfl rfl) | refine thenQ_n ?_ | refine thenQ_exit ?_ | refine thenQ_ret ?_ | refine midQ_ret ?_ | refine midQ_exit ?_ | refine blockQ_same ?_ | refine blockQ_ne (by decide) ?_ | refine blockQ_ret ?_ | refine blockQ_n ?_ | refine AW.exit ?_ | refine AW.block ?_ | refine AW.cond_t rfl ?_ | refine AW.cond_f rfl ?_ | refine AW.cond_dec rfl (fun hc => ?_) (fun hc => ?_)) | (with_reducible refine AW.cond rfl (fun hc => ?_) (fun hc => ?_) <;> try simp only [Bool.not_eq_eq_eq_not, Bool.not_true, Bool.not_false, decide_eq_true_eq, decide_eq_false_iff_not] at hc) | (with_reducible first | refine AW.seq ?_ | refine AW.skip ?_ | refine AW.ret ?_ | refine And.intro ?_ ?_) | (with_reducible intro hg; first | simp only [eq_false hg, rsB] | simp only [eq_true hg, rsB]) | (with_reducible refine retQ_drop ?_; simp only [vRes, packRes, vLoad, vPart, lk, cond, Nat.reduceBEq, get_loc, getD_zero, getD_succ, true_and, List.length_cons, List.length_nil, Nat.reduceAdd, Nat.reduceLT, Nat.reduceLeDiff, List.take_succ_cons, List.take_zero, List.drop_succ_cons, List.drop_zero, vvar_1, vzero_1, vvar_2, vzero_2, vknd_2, vsn_2, vvar_3, vzero_3, vknd_3, vsn_3, vvar_4, vzero_4, vknd_4, vsn_4, vvar_5, vzero_5, vknd_5, vsn_5, vvar_9, vzero_9, vknd_9, vsn_9, vsl_27, vkn_27, vvar_27, vzero_27, vsl_46, vkn_46, vvar_46, vzero_46, vvar_51, vzero_51, vbld_51, vvar_90, vzero_90, vsl_101, vkn_101, vvar_101, vzero_101, vbyt_101, vfld_51_0]) )
    all_goals first
      | (exfalso; omega)
      | skip
    · show Weak _ _ _
      refine Weak.seal 0 (e := .int .u8) (xs := bI (mzTo m m.length)) (by simp) rfl rfl ?_ ?_
      · repeat' (first | exact trivial | exact SealB.same _ | exact SealB.dead _ | refine And.intro ?_ ?_)
      · repeat' (first | exact trivial | exact SealV.same _ | exact SealV.whole rfl hbl.symm | refine And.intro ?_ ?_)
end Go.Proofs.YtlgagjboijkpgaaDoor
end

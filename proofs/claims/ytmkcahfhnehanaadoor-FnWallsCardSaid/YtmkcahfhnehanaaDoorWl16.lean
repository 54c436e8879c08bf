/- Texts of this seat that the law stands on, put together. No conditions. -/
import Derived.Lib.ParseIntBCases
import Derived.Lib.ParseIntBTie
import Derived.Shelf.Strconv.ParseIntPublic10
import Derived.Lib.SplitLaws
import Derived.Shelf.Strings.Cut
import Derived.Shelf.Strings.Split
import Derived.Test.YtmkcahfhnehanaaDoorWl15
section
set_option linter.unusedSimpArgs false
set_option linter.unusedVariables false
set_option linter.unusedSimpArgs false
set_option linter.unusedVariables false
set_option linter.unusedSimpArgs false
set_option linter.unusedVariables false
set_option maxHeartbeats 1000000
set_option linter.unusedSimpArgs false
set_option linter.unusedVariables false
set_option maxHeartbeats 1000000
set_option linter.unusedSimpArgs false
set_option linter.unusedVariables false
set_option linter.unusedSimpArgs false
set_option linter.unusedVariables false
set_option linter.unusedSimpArgs false
set_option linter.unusedVariables false
set_option maxHeartbeats 1000000
set_option linter.unusedSimpArgs false
set_option linter.unusedVariables false
set_option maxHeartbeats 1000000
set_option linter.unusedSimpArgs false
set_option linter.unusedVariables false
set_option maxHeartbeats 1000000
set_option linter.unusedSimpArgs false
set_option linter.unusedVariables false
/- The plain law of reading decimals; no program in sight. -/
namespace Go.Proofs.YtmkcahfhnehanaaDoor
open Go.Lib Go.Eng
/-- A digit read behind a number. -/
def dstep (n : Int) (c : UInt8) : Int := if 48 ≤ c.toNat ∧ c.toNat ≤ 57 then 10 * n + ((c.toNat : Int) - 48) else n
def digs (n : Int) (l : List UInt8) : Int := l.foldl dstep n
theorem digs_snoc (n : Int) (l : List UInt8) (c : UInt8) : digs n (l ++ [c]) = dstep (digs n l) c := by simp [digs]
theorem dstep_digit (n : Int) (r : Nat) (h : r < 10) : dstep n (UInt8.ofNat (48 + r)) = 10 * n + r := by
  unfold dstep
  rw [UInt8.toNat_ofNat', Nat.mod_eq_of_lt (by omega), if_pos (by omega)]
  omega
theorem digs_dec : ∀ (u : Nat), digs 0 (decDigits u) = u := by
  intro u
  induction u using Nat.strongRecOn with
  | _ u ih =>
    by_cases h : u < 10
    · rw [decDigits_small h]
      show dstep 0 _ = _
      rw [dstep_digit 0 u h]; omega
    · rw [decDigits_big h, digs_snoc, ih (u / 10) (by omega), dstep_digit _ _ (by omega)]
      omega
theorem digs_itoa (n : Int) : digs 0 (itoa n) = n.natAbs := by
  rw [itoa_abs]
  split
  · have e : digs 0 (45 :: decDigits n.natAbs) = digs (dstep 0 45) (decDigits n.natAbs) := rfl
    rw [e, show dstep 0 45 = 0 by decide, digs_dec]
  · exact digs_dec _
theorem decDigits_head (u : Nat) : ∃ (d : Nat) (r : List UInt8), d < 10 ∧ decDigits u = UInt8.ofNat (48 + d) :: r := by
  induction u using Nat.strongRecOn with
  | _ u ih =>
    by_cases h : u < 10
    · exact ⟨u, [], h, decDigits_small h⟩
    · obtain ⟨d, r, h1, h2⟩ := ih (u / 10) (by omega)
      exact ⟨d, r ++ [UInt8.ofNat (48 + u % 10)], h1, by rw [decDigits_big h, h2]; rfl⟩
/-- A text that is that number's. -/
def IsDec (s : ByteArray) (n : Int) : Prop := (-1000000000 ≤ n ∧ n ≤ 1000000000) ∧ (⟨(itoa n).toArray⟩ : ByteArray) = s
instance (s : ByteArray) (n : Int) : Decidable (IsDec s n) := by unfold IsDec; exact inferInstance
def dsum (s : ByteArray) : Int := if s.size ≤ 11 then digs 0 s.data.toList else 0
/-- What the reference reads first. -/
def rdN (s : ByteArray) : Int := if 0 < s.size ∧ byteAt s 0 = 45 then -dsum s else dsum s
/-- The number of a text. -/
def rd (s : ByteArray) : Option Int := if IsDec s (rdN s) then some (rdN s) else none
theorem itoa_len11 {n : Int} (h : -1000000000 ≤ n ∧ n ≤ 1000000000) : (itoa n).length ≤ 11 := by
  rw [itoa_abs]
  have := nDigits_le 9 n.natAbs (by omega)
  split
  · simp [decDigits_length]; omega
  · rw [decDigits_length]; omega
theorem IsDec.rdN {s : ByteArray} {n : Int} (h : IsDec s n) : rdN s = n := by
  obtain ⟨hr, rfl⟩ := h
  have hl := itoa_len11 hr
  have hs : (⟨(itoa n).toArray⟩ : ByteArray).size = (itoa n).length := bsz _
  have hd : dsum ⟨(itoa n).toArray⟩ = n.natAbs := by
    unfold dsum
    rw [hs, if_pos hl]
    exact digs_itoa n
  unfold Go.Proofs.YtmkcahfhnehanaaDoor.rdN
  rw [hd, hs]
  by_cases hn : n < 0
  · have e : itoa n = 45 :: decDigits n.natAbs := by rw [itoa_abs, if_pos hn]
    rw [if_pos ⟨by rw [e]; simp, by rw [e]; rfl⟩]
    omega
  · obtain ⟨d, r, hd', e⟩ := decDigits_head n.natAbs
    have e2 : itoa n = UInt8.ofNat (48 + d) :: r := by rw [itoa_abs, if_neg hn, e]
    have ed : (UInt8.ofNat (48 + d)).toNat = 48 + d := by rw [UInt8.toNat_ofNat', Nat.mod_eq_of_lt (by omega)]
    rw [if_neg (fun h => by
      have h2 := h.2
      rw [e2] at h2
      have h3 : ((UInt8.ofNat (48 + d)).toNat : Int) = 45 := h2
      rw [ed] at h3; omega)]
    omega
end Go.Proofs.YtmkcahfhnehanaaDoor
/- strconv.ParseInt at base 10, 64 bits: the library's contract, laid at this program; as a contract here. -/
namespace Go.Proofs.YtmkcahfhnehanaaDoor
open Go.Shelf Go.RowKit Go.Lib Go.Sort Go.Proofs Go.Eng
def lays174_ren : Go.Shelf.Ren := ⟨fun | 174 => 65 | 247 => 81 | 245 => 82 | 287 => 98 | 279 => 99 | 280 => 100 | 281 => 101 | 282 => 102 | 321 => 119 | 322 => 120 | 316 => 121 | 171 => 123 | 205 => 122 | 243 => 131 | 246 => 71 | 283 => 87 | 284 => 88 | 285 => 89 | 286 => 90 | 129 => 112 | 317 => 114 | 318 => 115 | 319 => 116 | 320 => 117 | 337 => 129 | 338 => 130 | n => n, fun | 9 => 9 | 3 => 3 | 2 => 2 | 75 => 103 | 85 => 110 | 4 => 4 | 167 => 139 | 5 => 5 | 53 => 85 | 175 => 140 | 46 => 108 | 168 => 142 | 37 => 22 | 0 => 0 | 210 => 163 | 21 => 21 | 127 => 115 | 145 => 177 | 143 => 175 | 171 => 125 | 173 => 128 | 212 => 156 | 51 => 136 | 20 => 20 | 213 => 157 | 232 => 181 | 233 => 182 | 80 => 106 | n => n, fun | 15 => 2 | 16 => 3 | 17 => 1 | 18 => 6 | 19 => 7 | n => n⟩
theorem lays174 : Go.Proofs.LaysC.n174 Tryd.prog lays174_ren := {
  mixed := by kernel_rfl
  f129 := Tryd.func112.trans (congrArg some (by kernel_rfl))
  f171 := Tryd.func123.trans (congrArg some (by kernel_rfl))
  f174 := Tryd.func65.trans (congrArg some (by kernel_rfl))
  f205 := Tryd.func122.trans (congrArg some (by kernel_rfl))
  f243 := Tryd.func131.trans (congrArg some (by kernel_rfl))
  f245 := Tryd.func82.trans (congrArg some (by kernel_rfl))
  f246 := Tryd.func71.trans (congrArg some (by kernel_rfl))
  f247 := Tryd.func81.trans (congrArg some (by kernel_rfl))
  f279 := Tryd.func99.trans (congrArg some (by kernel_rfl))
  f280 := Tryd.func100.trans (congrArg some (by kernel_rfl))
  f281 := Tryd.func101.trans (congrArg some (by kernel_rfl))
  f282 := Tryd.func102.trans (congrArg some (by kernel_rfl))
  f283 := Tryd.func87.trans (congrArg some (by kernel_rfl))
  f284 := Tryd.func88.trans (congrArg some (by kernel_rfl))
  f285 := Tryd.func89.trans (congrArg some (by kernel_rfl))
  f286 := Tryd.func90.trans (congrArg some (by kernel_rfl))
  f287 := Tryd.func98.trans (congrArg some (by kernel_rfl))
  f316 := Tryd.func121.trans (congrArg some (by kernel_rfl))
  f317 := Tryd.func114.trans (congrArg some (by kernel_rfl))
  f318 := Tryd.func115.trans (congrArg some (by kernel_rfl))
  f319 := Tryd.func116.trans (congrArg some (by kernel_rfl))
  f320 := Tryd.func117.trans (congrArg some (by kernel_rfl))
  f321 := Tryd.func119.trans (congrArg some (by kernel_rfl))
  f322 := Tryd.func120.trans (congrArg some (by kernel_rfl))
  f337 := Tryd.func129.trans (congrArg some (by kernel_rfl))
  f338 := Tryd.func130.trans (congrArg some (by kernel_rfl))
  t0 := Tryd.underlying0
  a0 := Tryd.isAgg0
  z0 := Tryd.sizeOf0
  v0 := Tryd.zeroValue0
  t2 := Tryd.underlying2
  a2 := Tryd.isAgg2
  z2 := Tryd.sizeOf2
  v2 := Tryd.zeroValue2
  t3 := Tryd.underlying3
  a3 := Tryd.isAgg3
  z3 := Tryd.sizeOf3
  v3 := Tryd.zeroValue3
  t4 := Tryd.underlying4
  a4 := Tryd.isAgg4
  z4 := Tryd.sizeOf4
  v4 := Tryd.zeroValue4
  t5 := Tryd.underlying5
  a5 := Tryd.isAgg5
  z5 := Tryd.sizeOf5
  v5 := Tryd.zeroValue5
  t9 := Tryd.underlying9
  a9 := Tryd.isAgg9
  z9 := Tryd.sizeOf9
  v9 := Tryd.zeroValue9
  t20 := Tryd.underlying20
  a20 := Tryd.isAgg20
  z20 := Tryd.sizeOf20
  v20 := Tryd.zeroValue20
  t21 := Tryd.underlying21
  a21 := Tryd.isAgg21
  z21 := Tryd.sizeOf21
  v21 := Tryd.zeroValue21
  t37 := Tryd.underlying22
  a37 := Tryd.isAgg22
  z37 := Tryd.sizeOf22
  v37 := Tryd.zeroValue22
  t46 := Tryd.underlying108
  a46 := Tryd.isAgg108
  z46 := Tryd.sizeOf108
  v46 := Tryd.zeroValue108
  t51 := Tryd.underlying136
  a51 := Tryd.isAgg136
  z51 := Tryd.sizeOf136
  v51 := Tryd.zeroValue136
  t53 := Tryd.underlying85
  a53 := Tryd.isAgg85
  z53 := Tryd.sizeOf85
  v53 := Tryd.zeroValue85
  t75 := Tryd.underlying103
  a75 := Tryd.isAgg103
  z75 := Tryd.sizeOf103
  v75 := Tryd.zeroValue103
  t85 := Tryd.underlying110
  a85 := Tryd.isAgg110
  z85 := Tryd.sizeOf110
  v85 := Tryd.zeroValue110
  t127 := Tryd.underlying115
  a127 := Tryd.isAgg115
  z127 := Tryd.sizeOf115
  v127 := Tryd.zeroValue115
  t143 := Tryd.underlying175
  a143 := Tryd.isAgg175
  z143 := Tryd.sizeOf175
  v143 := Tryd.zeroValue175
  t145 := Tryd.underlying177
  a145 := Tryd.isAgg177
  z145 := Tryd.sizeOf177
  v145 := Tryd.zeroValue177
  t167 := Tryd.underlying139
  a167 := Tryd.isAgg139
  z167 := Tryd.sizeOf139
  v167 := Tryd.zeroValue139
  t168 := Tryd.underlying142
  a168 := Tryd.isAgg142
  z168 := Tryd.sizeOf142
  v168 := Tryd.zeroValue142
  t171 := Tryd.underlying125
  a171 := Tryd.isAgg125
  z171 := Tryd.sizeOf125
  v171 := Tryd.zeroValue125
  t173 := Tryd.underlying128
  a173 := Tryd.isAgg128
  z173 := Tryd.sizeOf128
  v173 := Tryd.zeroValue128
  t175 := Tryd.underlying140
  a175 := Tryd.isAgg140
  z175 := Tryd.sizeOf140
  v175 := Tryd.zeroValue140
  t210 := Tryd.underlying163
  a210 := Tryd.isAgg163
  z210 := Tryd.sizeOf163
  v210 := Tryd.zeroValue163
  t212 := Tryd.underlying156
  a212 := Tryd.isAgg156
  z212 := Tryd.sizeOf156
  v212 := Tryd.zeroValue156
  t213 := Tryd.underlying157
  a213 := Tryd.isAgg157
  z213 := Tryd.sizeOf157
  t232 := Tryd.underlying181
  a232 := Tryd.isAgg181
  z232 := Tryd.sizeOf181
  v232 := Tryd.zeroValue181
  t233 := Tryd.underlying182
  a233 := Tryd.isAgg182
  z233 := Tryd.sizeOf182
  v233 := Tryd.zeroValue182
  g15 := by kernel_rfl
  g16 := by kernel_rfl
  g17 := by kernel_rfl
  g18 := by kernel_rfl
  g19 := by kernel_rfl
  t80 := Tryd.underlying106
  a80 := Tryd.isAgg106
  z80 := Tryd.sizeOf106
  v80 := Tryd.zeroValue106
  i0 := by kernel_rfl
  i2 := by kernel_rfl
  i3 := by kernel_rfl
  i4 := by kernel_rfl
  i5 := by kernel_rfl
  i9 := by kernel_rfl
  i20 := by kernel_rfl
  i21 := by kernel_rfl
  i37 := by kernel_rfl
  i46 := by kernel_rfl
  i51 := by kernel_rfl
  i53 := by kernel_rfl
  i75 := by kernel_rfl
  i80 := by kernel_rfl
  i85 := by kernel_rfl
  i127 := by kernel_rfl
  i143 := by kernel_rfl
  i145 := by kernel_rfl
  i167 := by kernel_rfl
  i168 := by kernel_rfl
  i171 := by kernel_rfl
  i173 := by kernel_rfl
  i175 := by kernel_rfl
  i210 := by kernel_rfl
  i212 := by kernel_rfl
  i232 := by kernel_rfl
  i233 := by kernel_rfl
  m15 := by kernel_rfl
  m16 := by kernel_rfl
  m17 := by kernel_rfl
  m18 := by kernel_rfl
  m19 := by kernel_rfl
  c0 := by kernel_rfl
  c2 := by kernel_rfl
  c3 := by kernel_rfl
  c4 := by kernel_rfl
  c5 := by kernel_rfl
  c9 := by kernel_rfl
  c20 := by kernel_rfl
  c21 := by kernel_rfl
  c37 := by kernel_rfl
  c46 := by kernel_rfl
  c51 := by kernel_rfl
  c53 := by kernel_rfl
  c75 := by kernel_rfl
  c80 := by kernel_rfl
  c85 := by kernel_rfl
  c127 := by kernel_rfl
  c143 := by kernel_rfl
  c145 := by kernel_rfl
  c167 := by kernel_rfl
  c168 := by kernel_rfl
  c171 := by kernel_rfl
  c173 := by kernel_rfl
  c175 := by kernel_rfl
  c210 := by kernel_rfl
  c212 := by kernel_rfl
  c213 := by kernel_rfl
  c232 := by kernel_rfl
  c233 := by kernel_rfl }
end Go.Proofs.YtmkcahfhnehanaaDoor
/- Walks: a decimal read. -/
namespace Go.Proofs.YtmkcahfhnehanaaDoor
open Go.Lib Go.Eng
theorem data_len (s : ByteArray) : s.data.toList.length = s.size := Array.length_toList
theorem byte_list {s : ByteArray} {i : Nat} (h : i < s.size) : ∃ c : UInt8, byteAt s i = (c.toNat : Int) ∧ s.data.toList.take (i + 1) = s.data.toList.take i ++ [c] := by
  have hl := data_len s
  refine ⟨s.data.toList[i], ?_, ?_⟩
  · unfold byteAt
    have h2 : i < s.data.size := h
    rw [Array.getD_eq_getD_getElem?, Array.getElem?_eq_getElem h2]; rfl
  · rw [List.take_add_one, List.getElem?_eq_getElem (by omega)]; rfl
end Go.Proofs.YtmkcahfhnehanaaDoor
/- Walks: a decimal read by the library; the law. -/
namespace Go.Proofs.YtmkcahfhnehanaaDoor
open Go.Lib Go.Eng
/-- The package variables that reading a decimal looks at. -/
def HasVars (H : List ABox) : Prop := (∃ (k : Nat) (T : TypeId) (fr : Nat × Nat), H[k]? = some (ABox.tab 1 (.cells powCells T fr))) ∧ (∃ (k : Nat) (t : TypeId) (p : Value) (T : TypeId) (fr : Nat × Nat), H[k]? = some (ABox.tab 2 (.cells #[.iface t p] T fr))) ∧ (∃ (k : Nat) (t : TypeId) (p : Value) (T : TypeId) (fr : Nat × Nat), H[k]? = some (ABox.tab 3 (.cells #[.iface t p] T fr)))
theorem HasVars.app {H : List ABox} (h : HasVars H) (l : List ABox) : HasVars (H ++ l) := by
  obtain ⟨⟨k, T, fr, h1⟩, ⟨k2, t2, p2, T2, fr2, h2⟩, ⟨k3, t3, p3, T3, fr3, h3⟩⟩ := h
  exact ⟨⟨k, T, fr, getT h1⟩, ⟨k2, t2, p2, T2, fr2, getT h2⟩, ⟨k3, t3, p3, T3, fr3, getT h3⟩⟩
end Go.Proofs.YtmkcahfhnehanaaDoor
/- The plain law of texts cut at a mark; lists read; no program in sight. -/
namespace Go.Proofs.YtmkcahfhnehanaaDoor
open Go.Lib Go.Eng
/-- Bytes set before the first part. -/
def glue (p : List UInt8) : List (List UInt8) → List (List UInt8)
  | [] => [p]
  | q :: qs => (p ++ q) :: qs
/-- The parts of a text between marks. -/
def pts (m : UInt8) : List UInt8 → List (List UInt8)
  | [] => [[]]
  | c :: l => if c = m then [] :: pts m l else glue [c] (pts m l)
def Free (m : UInt8) (p : List UInt8) : Prop := ∀ c ∈ p, c ≠ m
theorem pts_ne (m : UInt8) (l : List UInt8) : pts m l ≠ [] := by
  cases l with
  | nil => simp [pts]
  | cons c l =>
    unfold pts
    split
    · simp
    · cases pts m l <;> simp [glue]
theorem glue_glue (p q : List UInt8) {x : List (List UInt8)} (h : x ≠ []) : glue p (glue q x) = glue (p ++ q) x := by
  cases x with
  | nil => exact absurd rfl h
  | cons a r => simp [glue]
theorem glue_nil {x : List (List UInt8)} (h : x ≠ []) : glue [] x = x := by
  cases x with
  | nil => exact absurd rfl h
  | cons a r => simp [glue]
theorem pts_skip (m : UInt8) : ∀ (p l : List UInt8), Free m p → pts m (p ++ l) = glue p (pts m l)
  | [], l, _ => (glue_nil (pts_ne m l)).symm
  | c :: p, l, h => by
    have hc : c ≠ m := h c (List.mem_cons_self ..)
    have ih := pts_skip m p l (fun x hx => h x (List.mem_cons_of_mem _ hx))
    rw [List.cons_append]
    conv => lhs; unfold pts
    rw [if_neg hc, ih, glue_glue _ _ (pts_ne m l)]; rfl
theorem pts_free {m : UInt8} {p : List UInt8} (h : Free m p) : pts m p = [p] := by
  have := pts_skip m p [] h
  rw [List.append_nil] at this
  rw [this]; simp [pts, glue]
theorem pts_at {m : UInt8} {p l : List UInt8} (h : Free m p) : pts m (p ++ m :: l) = p :: pts m l := by
  rw [pts_skip m p _ h]
  simp [pts, glue]
theorem pts_len (m : UInt8) : ∀ (l : List UInt8), (pts m l).length ≤ l.length + 1
  | [] => by simp [pts]
  | c :: l => by
    have ih := pts_len m l
    unfold pts
    split
    · simp only [List.length_cons]; omega
    · cases e : pts m l with
      | nil => simp [glue]
      | cons a r => rw [e] at ih; simp only [glue, List.length_cons] at ih ⊢; omega
theorem pts_each (m : UInt8) : ∀ (l q : List UInt8), q ∈ pts m l → q.length ≤ l.length
  | [], q, h => by simp [pts] at h; subst h; simp
  | c :: l, q, h => by
    have ih := pts_each m l
    unfold pts at h
    split at h
    · rcases List.mem_cons.1 h with rfl | h
      · simp
      · have := ih q h; simp only [List.length_cons]; omega
    · cases e : pts m l with
      | nil => exact absurd e (pts_ne m l)
      | cons a r =>
        rw [e] at h ih
        simp only [glue] at h
        rcases List.mem_cons.1 h with rfl | h
        · have := ih a (List.mem_cons_self ..)
          simp; omega
        · have := ih q (List.mem_cons_of_mem _ h); simp only [List.length_cons]; omega
/-- Where a mark is first. -/
theorem idx1 (m : UInt8) : ∀ (l : List UInt8), (index l [m] = -1 ∧ Free m l) ∨ ∃ p r, l = p ++ m :: r ∧ Free m p ∧ index l [m] = (p.length : Int)
  | [] => .inl ⟨by simp [index], fun c h => by cases h⟩
  | b :: l => by
    by_cases hb : b = m
    · subst hb
      exact .inr ⟨[], l, rfl, (fun c h => by cases h), by rw [index]; simp [List.isPrefixOf]⟩
    · have hp : ([m] : List UInt8).isPrefixOf (b :: l) = false := by simp [List.isPrefixOf, Ne.symm hb]
      have hix : index (b :: l) [m] = if index l [m] == -1 then -1 else index l [m] + 1 := by rw [index, hp]; simp
      rcases idx1 m l with ⟨h1, h2⟩ | ⟨p, r, h1, h2, h3⟩
      · refine .inl ⟨by rw [hix, if_pos (by simp [h1])], fun c hc => ?_⟩
        rcases List.mem_cons.1 hc with rfl | hc
        · exact hb
        · exact h2 c hc
      · refine .inr ⟨b :: p, r, by rw [h1]; rfl, fun c hc => ?_, ?_⟩
        · rcases List.mem_cons.1 hc with rfl | hc
          · exact hb
          · exact h2 c hc
        · rw [hix, if_neg (by rw [h3, beq_iff_eq]; omega), h3]; simp
theorem splitK_pts (m : UInt8) : ∀ (k : Nat) (l : List UInt8), count l [m] = k → splitK [m] 0 k l = pts m l
  | 0, l, h => by
    rcases idx1 m l with ⟨h1, h2⟩ | ⟨p, r, h1, h2, h3⟩
    · rw [pts_free h2]; rfl
    · rw [count_hit (by simp) h3] at h; omega
  | k + 1, l, h => by
    rcases idx1 m l with ⟨h1, h2⟩ | ⟨p, r, h1, h2, h3⟩
    · rw [count_miss h1] at h; omega
    · have e : l.drop (p.length + ([m] : List UInt8).length) = r := by rw [h1]; simp
      have e2 : l.take (p.length + 0) = p := by rw [h1]; simp
      have hc := count_hit (s := l) (sub := [m]) (by simp) h3
      rw [e] at hc
      have ih := splitK_pts m k r (by omega)
      have ei : (index l [m]).toNat = p.length := by omega
      unfold splitK
      rw [if_neg (by rw [h3, beq_iff_eq]; omega), ei, e, e2, ih, h1, pts_at h2]
/-- The parts as texts. -/
def ptsS (m : UInt8) (s : ByteArray) : List ByteArray := (pts m s.data.toList).map fun l => ⟨l.toArray⟩
theorem ba_eta (s : ByteArray) : (⟨s.data.toList.toArray⟩ : ByteArray) = s := by
  apply ByteArray.ext; simp
theorem split_pts (m : UInt8) (s : ByteArray) : splitB ⟨#[m]⟩ 0 (countB s ⟨#[m]⟩) s = ptsS m s := by
  have h := splitB_data ⟨#[m]⟩ 0 (countB s ⟨#[m]⟩) s
  have hc : countB s ⟨#[m]⟩ = count s.data.toList [m] := rfl
  rw [show (⟨#[m]⟩ : ByteArray).data.toList = [m] from rfl, hc, splitK_pts m _ _ rfl] at h
  unfold ptsS
  rw [← h, List.map_map, hc]
  conv => lhs; rw [← List.map_id (splitB _ _ _ _)]
  refine List.map_congr_left fun b _ => ?_
  exact (ba_eta b).symm
/-! ### The reference's loop -/
/-- What the loop knows at i: the parts laid, and where the next one begins. -/
def CutAt (m : UInt8) (l : List UInt8) (i : Nat) (out : List (List UInt8)) (fr : Nat) : Prop := fr ≤ i ∧ i ≤ l.length ∧ Free m ((l.drop fr).take (i - fr)) ∧ pts m l = out ++ pts m (l.drop fr)
theorem CutAt.start (m : UInt8) (l : List UInt8) : CutAt m l 0 [] 0 := ⟨Nat.le_refl _, Nat.zero_le _, fun c h => by simp at h, rfl⟩
theorem CutAt.skip {m : UInt8} {l : List UInt8} {i fr : Nat} {out : List (List UInt8)} (h : CutAt m l i out fr) (hi : i < l.length) (hc : l[i] ≠ m) : CutAt m l (i + 1) out fr := by
  obtain ⟨h1, h2, h3, h4⟩ := h
  refine ⟨by omega, by omega, fun c hcm => ?_, h4⟩
  rw [show i + 1 - fr = (i - fr) + 1 by omega, List.take_add_one, List.getElem?_drop, show fr + (i - fr) = i by omega, List.getElem?_eq_getElem hi] at hcm
  rcases List.mem_append.1 hcm with hcm | hcm
  · exact h3 c hcm
  · simp at hcm; subst hcm; exact hc
theorem CutAt.at {m : UInt8} {l : List UInt8} {i fr : Nat} {out : List (List UInt8)} (h : CutAt m l i out fr) (hi : i < l.length) (hc : l[i] = m) : CutAt m l (i + 1) (out ++ [(l.drop fr).take (i - fr)]) (i + 1) := by
  obtain ⟨h1, h2, h3, h4⟩ := h
  refine ⟨Nat.le_refl _, by omega, fun c hcm => by simp at hcm, ?_⟩
  have e : l.drop fr = (l.drop fr).take (i - fr) ++ m :: l.drop (i + 1) := by
    conv => lhs; rw [← List.take_append_drop (i - fr) (l.drop fr)]
    rw [List.drop_drop, show fr + (i - fr) = i by omega, List.drop_eq_getElem_cons hi, hc]
  rw [h4, List.append_assoc]
  congr 1
  conv => lhs; rw [e]
  rw [pts_at h3]; rfl
theorem CutAt.done {m : UInt8} {l : List UInt8} {fr : Nat} {out : List (List UInt8)} (h : CutAt m l l.length out fr) : out ++ [(l.drop fr).take (l.length - fr)] = pts m l := by
  obtain ⟨h1, h2, h3, h4⟩ := h
  have e : (l.drop fr).take (l.length - fr) = l.drop fr := List.take_of_length_le (by simp)
  rw [e] at h3 ⊢
  rw [h4, pts_free h3]
theorem CutAt.len {m : UInt8} {l : List UInt8} {i fr : Nat} {out : List (List UInt8)} (h : CutAt m l i out fr) : out.length ≤ l.length + 1 := by
  have h1 := pts_len m l
  rw [h.2.2.2, List.length_append] at h1
  omega
end Go.Proofs.YtmkcahfhnehanaaDoor
/- strings.Cut and strings.Split at a mark of one byte: the library's contracts, laid at this program; as contracts here. -/
namespace Go.Proofs.YtmkcahfhnehanaaDoor
open Go.Shelf Go.RowKit Go.Lib Go.Sort Go.Proofs Go.Eng
def lays145_ren : Go.Shelf.Ren := ⟨fun | 145 => 31 | 220 => 50 | 219 => 64 | 217 => 77 | 225 => 78 | 224 => 79 | 267 => 80 | 266 => 96 | 314 => 97 | n => n, fun | 9 => 9 | 4 => 4 | 59 => 63 | 3 => 3 | 5 => 5 | 46 => 108 | 146 => 137 | 51 => 136 | n => n, fun | 1 => 0 | n => n⟩
theorem lays145 : Go.Proofs.Lays.n145 Tryd.prog lays145_ren := {
  mixed := by kernel_rfl
  f145 := Tryd.func31.trans (congrArg some (by kernel_rfl))
  f217 := Tryd.func77.trans (congrArg some (by kernel_rfl))
  f219 := Tryd.func64.trans (congrArg some (by kernel_rfl))
  f220 := Tryd.func50.trans (congrArg some (by kernel_rfl))
  f224 := Tryd.func79.trans (congrArg some (by kernel_rfl))
  f225 := Tryd.func78.trans (congrArg some (by kernel_rfl))
  f266 := Tryd.func96.trans (congrArg some (by kernel_rfl))
  f267 := Tryd.func80.trans (congrArg some (by kernel_rfl))
  f314 := Tryd.func97.trans (congrArg some (by kernel_rfl))
  t3 := Tryd.underlying3
  a3 := Tryd.isAgg3
  z3 := Tryd.sizeOf3
  v3 := Tryd.zeroValue3
  t4 := Tryd.underlying4
  a4 := Tryd.isAgg4
  z4 := Tryd.sizeOf4
  v4 := Tryd.zeroValue4
  t5 := Tryd.underlying5
  a5 := Tryd.isAgg5
  z5 := Tryd.sizeOf5
  v5 := Tryd.zeroValue5
  t9 := Tryd.underlying9
  a9 := Tryd.isAgg9
  z9 := Tryd.sizeOf9
  v9 := Tryd.zeroValue9
  t46 := Tryd.underlying108
  a46 := Tryd.isAgg108
  z46 := Tryd.sizeOf108
  v46 := Tryd.zeroValue108
  t51 := Tryd.underlying136
  a51 := Tryd.isAgg136
  z51 := Tryd.sizeOf136
  v51 := Tryd.zeroValue136
  t59 := Tryd.underlying63
  a59 := Tryd.isAgg63
  z59 := Tryd.sizeOf63
  v59 := Tryd.zeroValue63
  t146 := Tryd.underlying137
  a146 := Tryd.isAgg137
  z146 := Tryd.sizeOf137
  v146 := Tryd.zeroValue137
  g1 := by kernel_rfl }
def lays146_ren : Go.Shelf.Ren := ⟨fun | 146 => 47 | 221 => 63 | 268 => 74 | 138 => 75 | 143 => 76 | 195 => 93 | 197 => 94 | 218 => 95 | 219 => 64 | 260 => 118 | 217 => 77 | 225 => 78 | 224 => 79 | 267 => 80 | 266 => 96 | 314 => 97 | n => n, fun | 9 => 9 | 31 => 81 | 3 => 3 | 4 => 4 | 0 => 0 | 105 => 134 | 21 => 21 | 5 => 5 | 46 => 108 | 119 => 171 | 139 => 174 | 138 => 173 | 146 => 137 | 51 => 136 | n => n, fun | 1 => 0 | 3 => 4 | 4 => 5 | n => n⟩
theorem lays146 : Go.Proofs.Lays.n146 Tryd.prog lays146_ren := {
  mixed := by kernel_rfl
  f138 := Tryd.func75.trans (congrArg some (by kernel_rfl))
  f143 := Tryd.func76.trans (congrArg some (by kernel_rfl))
  f146 := Tryd.func47.trans (congrArg some (by kernel_rfl))
  f195 := Tryd.func93.trans (congrArg some (by kernel_rfl))
  f197 := Tryd.func94.trans (congrArg some (by kernel_rfl))
  f217 := Tryd.func77.trans (congrArg some (by kernel_rfl))
  f218 := Tryd.func95.trans (congrArg some (by kernel_rfl))
  f219 := Tryd.func64.trans (congrArg some (by kernel_rfl))
  f221 := Tryd.func63.trans (congrArg some (by kernel_rfl))
  f224 := Tryd.func79.trans (congrArg some (by kernel_rfl))
  f225 := Tryd.func78.trans (congrArg some (by kernel_rfl))
  f260 := Tryd.func118.trans (congrArg some (by kernel_rfl))
  f266 := Tryd.func96.trans (congrArg some (by kernel_rfl))
  f267 := Tryd.func80.trans (congrArg some (by kernel_rfl))
  f268 := Tryd.func74.trans (congrArg some (by kernel_rfl))
  f314 := Tryd.func97.trans (congrArg some (by kernel_rfl))
  t0 := Tryd.underlying0
  a0 := Tryd.isAgg0
  z0 := Tryd.sizeOf0
  v0 := Tryd.zeroValue0
  t3 := Tryd.underlying3
  a3 := Tryd.isAgg3
  z3 := Tryd.sizeOf3
  v3 := Tryd.zeroValue3
  t4 := Tryd.underlying4
  a4 := Tryd.isAgg4
  z4 := Tryd.sizeOf4
  v4 := Tryd.zeroValue4
  t5 := Tryd.underlying5
  a5 := Tryd.isAgg5
  z5 := Tryd.sizeOf5
  v5 := Tryd.zeroValue5
  t9 := Tryd.underlying9
  a9 := Tryd.isAgg9
  z9 := Tryd.sizeOf9
  v9 := Tryd.zeroValue9
  t21 := Tryd.underlying21
  a21 := Tryd.isAgg21
  z21 := Tryd.sizeOf21
  v21 := Tryd.zeroValue21
  t31 := Tryd.underlying81
  a31 := Tryd.isAgg81
  z31 := Tryd.sizeOf81
  v31 := Tryd.zeroValue81
  t46 := Tryd.underlying108
  a46 := Tryd.isAgg108
  z46 := Tryd.sizeOf108
  v46 := Tryd.zeroValue108
  t51 := Tryd.underlying136
  a51 := Tryd.isAgg136
  z51 := Tryd.sizeOf136
  v51 := Tryd.zeroValue136
  t105 := Tryd.underlying134
  a105 := Tryd.isAgg134
  z105 := Tryd.sizeOf134
  v105 := Tryd.zeroValue134
  t119 := Tryd.underlying171
  a119 := Tryd.isAgg171
  z119 := Tryd.sizeOf171
  t138 := Tryd.underlying173
  a138 := Tryd.isAgg173
  z138 := Tryd.sizeOf173
  v138 := Tryd.zeroValue173
  t139 := Tryd.underlying174
  a139 := Tryd.isAgg174
  z139 := Tryd.sizeOf174
  v139 := Tryd.zeroValue174
  t146 := Tryd.underlying137
  a146 := Tryd.isAgg137
  z146 := Tryd.sizeOf137
  v146 := Tryd.zeroValue137
  g1 := by kernel_rfl
  g3 := by kernel_rfl
  g4 := by kernel_rfl }
theorem gMax146 : lays146_ren.g 1 = 0 := by kernel_rfl
theorem hi146 : (Tryd.prog.info? (lays146_ren.t 9)).map (fun i => (i.zero, i.size, i.bytes)) = some (some (.string ByteArray.empty), 1, 16) := by kernel_rfl
theorem cell_at0 {w : World} {g : Nat} {cs : Array Value} {ev : Value} {T : TypeId} {fr : Nat × Nat} (h : w.heap[g]? = some (.cells cs T fr)) (h0 : cs[0]? = some ev) : w.cell? ⟨g, 0, none⟩ = some ev := by
  simp only [World.cell?, h]
  simpa using h0
theorem split79_ac (s : ByteArray) (hs : s.size ≤ 1048576) (m : UInt8) {H : List ABox} {k : Nat} {M : Int} {cs : Array Value} {T : TypeId} {fr : Nat × Nat} (hc0 : cs[0]? = some (.int .i64 M)) (hk : H[k]? = some (.tab 0 (.cells cs T fr))) :
    AC Tryd.prog 47 [.v (.string (s)), .v (.string (⟨#[m]⟩))] H (fun r H' => r = .sl 1 H.length 0 (ptsS m s).length ∧ H' = H ++ [.row false .str (ptsS m s)]) := by
  refine ⟨⟨_, Tryd.func47, by decide, by decide⟩, fun c vs w hv hh => ?_⟩
  obtain ⟨x, y, rfl, hx, hy⟩ := hv.args2
  have ex := hx.v_inv; have ey := hy.v_inv; subst ex; subst ey
  refine (Any.strings_Split lays146 hi146 s ⟨#[m]⟩ M w (by omega) (by rw [gMax146]; exact cell_at0 (hh.tab hk) hc0) (Nat.le_refl 1)).mono ?_
  rintro e w' ⟨rfl, rfl⟩
  have hl := splitB_all ⟨#[m]⟩ (Nat.le_refl 1) 0 (countB s ⟨#[m]⟩) s rfl
  rw [split_pts] at hl ⊢
  obtain ⟨c', he, hloc, hH⟩ := hh.newRow ((ptsS m s).map Value.string).toArray (lays146_ren.t 9) .str (ptsS m s) (ptsS m s).length (by simp [ETy.sz]) (Nat.le_refl _) (fun i j hi hj => by
    have hi' : i < (ptsS m s).length := hi
    obtain rfl : j = 0 := by simp only [ETy.sz] at hj; omega
    have e1 : (((ptsS m s).map Value.string).toArray.toList.getD (i * 1 + 0) undef) = Value.string ((ptsS m s).getD i ByteArray.empty) := by
      simp [List.getD, hi']
    show RelV c (.v (.string ((ptsS m s).getD i ByteArray.empty))) _
    simp only [ETy.sz]
    rw [e1]; exact .v _)
  refine ⟨c', _, _, _, he, rfl, ?_, hH, rfl, rfl⟩
  rw [← hl]
  exact RelV.sl (l := ⟨w.heap.size, 0, (ptsS m s).length⟩) hloc (by simp) (fun _ => ⟨rfl, by simp⟩)
end Go.Proofs.YtmkcahfhnehanaaDoor
/- Walks: lists that are marked. -/
namespace Go.Proofs.YtmkcahfhnehanaaDoor
open Go.Eng
/-- The numbers from k on. -/
def marks (k : Int) (n : Nat) : List Int := (List.range n).map (fun j : Nat => k + (j : Int))
end Go.Proofs.YtmkcahfhnehanaaDoor
/- Walks: a text cut at a mark; lists read. -/
namespace Go.Proofs.YtmkcahfhnehanaaDoor
open Go.Lib Go.Eng
end Go.Proofs.YtmkcahfhnehanaaDoor
/- Walks: lists read by the reference. -/
namespace Go.Proofs.YtmkcahfhnehanaaDoor
open Go.Lib Go.Eng
theorem ptsS_size (m : UInt8) (s : ByteArray) (i : Nat) : ((ptsS m s).getD i ByteArray.empty).size ≤ s.size := by
  by_cases h : i < (ptsS m s).length
  · have hm : (ptsS m s).getD i ByteArray.empty ∈ ptsS m s := by
      simp only [List.getD, List.getElem?_eq_getElem h, Option.getD_some]; exact List.getElem_mem h
    obtain ⟨q, hq, he⟩ := List.mem_map.1 hm
    rw [← he, bsz, ← data_len]
    exact pts_each m _ q hq
  · simp [List.getD, List.getElem?_eq_none (Nat.le_of_not_lt h)]
theorem ptsS_len (m : UInt8) (s : ByteArray) : (ptsS m s).length ≤ s.size + 1 := by
  have := pts_len m s.data.toList
  rw [data_len] at this
  simpa [ptsS] using this
/-- What a reader hands back: the list, new, or nothing. -/
def RdPost (o : Option (List Int)) (H : List ABox) (r : AVal) (H' : List ABox) : Prop := (∃ xs, o = some xs ∧ r = .tup [.sl 1 H.length 0 xs.length, .v (.bool (true))] ∧ H' = H ++ [.row false (.int .i64) xs]) ∨ (o = none ∧ r = .tup [.v (.slice none 0 0), .v (.bool (false))] ∧ H' = H)
end Go.Proofs.YtmkcahfhnehanaaDoor
/- The plain law of texts in two parts; channels and points read; no program in sight. -/
namespace Go.Proofs.YtmkcahfhnehanaaDoor
open Go.Lib Go.Eng
/-- A byte that a number's text may have. -/
def DecB (c : UInt8) : Prop := c.toNat = 45 ∨ (48 ≤ c.toNat ∧ c.toNat ≤ 57)
/-- A byte that a list's text may have. -/
def ListB (c : UInt8) : Prop := c.toNat ≠ 47 ∧ c.toNat ≠ 46
theorem DecB.list {c : UInt8} (h : DecB c) : ListB c := by unfold DecB at h; unfold ListB; omega
end Go.Proofs.YtmkcahfhnehanaaDoor
end
section
set_option linter.unusedSimpArgs false
set_option linter.unusedVariables false
namespace Go.Proofs.YtmkcahfhnehanaaDoor
open Go.Lib Go.Eng
/-- What a letter of a maze's text says. -/
def convB (c : UInt8) : Int := if c = 35 then 0 else (c.toNat : Int) - 48
def rowR (l : List UInt8) : List Int := l.map convB
def rowsR (l : List UInt8) : Mz := (pts 47 l).map rowR
def mzR (s : ByteArray) : Mz := rowsR s.data.toList
def GoodB (c : UInt8) : Prop := c = 35 ∨ (49 ≤ c.toNat ∧ c.toNat ≤ 57)
instance (c : UInt8) : Decidable (GoodB c) := by unfold GoodB; exact inferInstance
def GoodS (s : ByteArray) : Prop := ∀ p ∈ pts 47 s.data.toList, ∀ c ∈ p, GoodB c
/-- The maze of a text. -/
noncomputable def rdm (s : ByteArray) : Option Mz := open Classical in if GoodS s ∧ MzOk (mzR s) then some (mzR s) else none
theorem cell_conv {c : UInt8} (h : GoodB c) : cellB (convB c) = c := by
  unfold cellB convB
  rcases h with h | h
  · subst h; rfl
  · have hne : c ≠ 35 := fun e => by subst e; simp at h
    rw [if_neg hne, if_neg (by omega)]
    have : ((48 + ((c.toNat : Int) - 48).toNat)) = c.toNat := by omega
    rw [this]
    simp
theorem good_conv {c : UInt8} (h0 : 0 ≤ convB c) (h9 : convB c ≤ 9) (h : cellB (convB c) = c) : GoodB c := by
  unfold convB at h0 h9 h
  by_cases e : c = 35
  · exact .inl e
  · rw [if_neg e] at h0 h9 h
    refine .inr ⟨?_, by omega⟩
    by_cases e48 : c.toNat = 48
    · unfold cellB at h
      rw [if_pos (by omega)] at h
      exact absurd h.symm e
    · omega
theorem join_same {x : UInt8} : ∀ {A B : List (List UInt8)}, A.length = B.length → (∀ i, i < A.length → (A.getD i []).length = (B.getD i []).length) → join A [x] = join B [x] → A = B
  | [], [], _, _, _ => rfl
  | [], _ :: _, h, _, _ => by simp at h
  | _ :: _, [], h, _, _ => by simp at h
  | a :: A, b :: B, h, hl, hj => by
    have h0 : a.length = b.length := hl 0 (by simp)
    have hr : ∀ i, i < A.length → (A.getD i []).length = (B.getD i []).length := fun i hi => hl (i + 1) (by simpa using hi)
    have hAB : A.length = B.length := by simpa using h
    rw [join_cons, join_cons] at hj
    obtain ⟨e1, e2⟩ := List.append_inj hj h0
    cases A with
    | nil =>
      cases B with
      | nil => rw [e1]
      | cons _ _ => simp at hAB
    | cons a2 A2 =>
      cases B with
      | nil => simp at hAB
      | cons b2 B2 =>
        have e3 : join (a2 :: A2) [x] = join (b2 :: B2) [x] := by
          rw [join_cons, join_cons]
          have t : ∀ (y : List UInt8) (Y : List (List UInt8)), joinTail [x] (y :: Y) = x :: (y ++ joinTail [x] Y) := fun y Y => by simp [joinTail]
          rw [t, t] at e2
          injection e2
        rw [e1, join_same hAB hr e3]
theorem join_pts (m : UInt8) : ∀ l : List UInt8, join (pts m l) [m] = l
  | [] => by simp [pts, join_one]
  | c :: l => by
    have ih := join_pts m l
    unfold pts
    split
    · rename_i h
      rw [join_cons]
      cases e : pts m l with
      | nil => exact absurd e (pts_ne m l)
      | cons p r =>
        rw [e, join_cons] at ih
        show joinTail [m] (p :: r) = c :: l
        rw [show joinTail [m] (p :: r) = m :: (p ++ joinTail [m] r) by simp [joinTail], ih, h]
    · cases e : pts m l with
      | nil => exact absurd e (pts_ne m l)
      | cons p r =>
        rw [e, join_cons] at ih
        show join (([c] ++ p) :: r) [m] = c :: l
        rw [join_cons, List.append_assoc, ih]; rfl
theorem mzB_eq (m : Mz) : mzB m = join (m.map fun r => r.map cellB) [47] := by
  unfold mzB mzTo rowsB rowB
  rw [List.take_length]
  congr 1
  refine List.map_congr_left fun r _ => ?_
  rw [List.take_length]
/-- The reference's test comes to the same. -/
theorem mz_back {s : ByteArray} (h : MzOk (mzR s)) : mzB (mzR s) = s.data.toList ↔ GoodS s := by
  have hj := join_pts 47 s.data.toList
  rw [mzB_eq]
  unfold mzR rowsR
  rw [List.map_map]
  constructor
  · intro e
    have hs := join_same (A := (pts 47 s.data.toList).map ((fun r => r.map cellB) ∘ rowR)) (B := pts 47 s.data.toList) (by simp) (fun i hi => by
      have hi' : i < (pts 47 s.data.toList).length := by simpa using hi
      simp [List.getD, hi', rowR]) (e.trans hj.symm)
    intro p hp c hc
    obtain ⟨i, hi, ei⟩ := List.mem_iff_getElem.1 hp
    obtain ⟨j, hj', ej⟩ := List.mem_iff_getElem.1 hc
    have hrow := h.2.2 i (by unfold mzR rowsR; simpa using hi)
    have hcell := hrow.2 j (by unfold mzR rowsR; simp [List.getD, hi, ei, rowR, hj'])
    have hv : ((mzR s).getD i []).getD j 0 = convB c := by unfold mzR rowsR; simp [List.getD, hi, ei, rowR, hj', ej]
    rw [hv] at hcell
    have hpi : (rowR p).map cellB = p := by
      have := congrArg (fun L => L.getD i []) hs
      simpa [List.getD, hi, ei] using this
    have hcj : cellB (convB c) = c := by
      have := congrArg (fun L => L.getD j 0) hpi
      simpa [List.getD, hj', ej, rowR] using this
    exact good_conv hcell.1 hcell.2 hcj
  · intro hg
    have e : (pts 47 s.data.toList).map ((fun r => r.map cellB) ∘ rowR) = pts 47 s.data.toList := by
      conv => rhs; rw [← List.map_id (pts 47 s.data.toList)]
      refine List.map_congr_left fun p hp => ?_
      show (rowR p).map cellB = p
      unfold rowR
      rw [List.map_map]
      conv => rhs; rw [← List.map_id p]
      exact List.map_congr_left fun c hc => cell_conv (hg p hp c hc)
    rw [e, hj]
theorem rdm_size {s : ByteArray} {m : Mz} (h : rdm s = some m) : s.size ≤ 200 ∧ m = mzR s ∧ MzOk (mzR s) ∧ GoodS s := by
  unfold rdm at h
  split at h
  · rename_i hg
    cases h
    have hb := (mz_back hg.2).2 hg.1
    have hl := mzTo_len hg.2 (mzR s).length (Nat.le_refl _)
    have h12 := hg.2.1
    refine ⟨?_, rfl, hg.2, hg.1⟩
    rw [bsz, ← hb]
    unfold mzB
    omega
  · cases h
end Go.Proofs.YtmkcahfhnehanaaDoor
end
section
set_option linter.unusedSimpArgs false
set_option linter.unusedVariables false
set_option maxHeartbeats 1000000
namespace Go.Proofs.YtmkcahfhnehanaaDoor
open Go.Lib Go.Eng
def HasMax (H : List ABox) : Prop := ∃ (k : Nat) (M : Int) (cs : Array Value) (T : TypeId) (fr : Nat × Nat), cs[0]? = some (Value.int .i64 M) ∧ H[k]? = some (ABox.tab 0 (.cells cs T fr))
theorem HasMax.app {H : List ABox} (h : HasMax H) (l : List ABox) : HasMax (H ++ l) := by
  obtain ⟨k, M, cs, T, fr, h0, h⟩ := h
  exact ⟨k, M, cs, T, fr, h0, getT h⟩
theorem split_ac (s : ByteArray) (hs : s.size ≤ 1048576) (m : UInt8) {H : List ABox} (hm : HasMax H) : AC Tryd.prog 47 [.v (.string (s)), .v (.string (⟨#[m]⟩))] H (fun r H' => r = .sl 1 H.length 0 (ptsS m s).length ∧ H' = H ++ [.row false .str (ptsS m s)]) := by
  obtain ⟨k, M, cs, T, fr, h0, h⟩ := hm
  exact split79_ac s hs m h0 h
theorem RdPost.some_ {o : Option (List Int)} {xs : List Int} (h : o = some xs) {H : List ABox} {r : AVal} {H' : List ABox} (hp : RdPost o H r H') : r = .tup [.sl 1 H.length 0 xs.length, .v (.bool (true))] ∧ H' = H ++ [.row false (.int .i64) xs] := by
  rcases hp with ⟨ys, h1, h2, h3⟩ | ⟨h1, _, _⟩
  · rw [h] at h1; cases h1; exact ⟨h2, h3⟩
  · rw [h] at h1; cases h1
end Go.Proofs.YtmkcahfhnehanaaDoor
end
section
set_option linter.unusedSimpArgs false
set_option linter.unusedVariables false
set_option maxHeartbeats 2000000
namespace Go.Proofs.YtmkcahfhnehanaaDoor
open Go.Eng Go.Lib
theorem lent_pNew {H pre post : List ABox} {P : Mz} {m k g : Nat} (hm : m = P.length) (hk : k = H.length + (pre.length + P.length)) (hg : g = H.length + pre.length) :
    LentV (H ++ (pre ++ (Eng.rowsB P ++ (.row false (.own .i64) (refs g P) :: post)))) (.sl 1 k 0 m) (.rd (.sli .i64) (P)) := by
  subst hk; subst hg
  exact LentV.refs (pre := []) (post := []) lk_own (fun i hi => lk_row hi) hm
end Go.Proofs.YtmkcahfhnehanaaDoor
end
section
set_option linter.unusedSimpArgs false
set_option linter.unusedVariables false
set_option maxHeartbeats 4000000
namespace Go.Proofs.YtmkcahfhnehanaaDoor
open Go.Lib Go.Eng
theorem FinOk.dropTo {m N : Nat} {s : List (Nat × AVal)} {G K l : List ABox} {r : AVal} (hB : BaseLt G.length G) (hm : m = G.length) (hr : IdsLt G.length r) : FinOk m ⟨N, s, G ++ K, l⟩ r r G := fun c v w hn hv hh =>
  FinOk.drop (n := m) (m := G.length) (st := ⟨N, s, G, K ++ l⟩) hB hr rfl c v w (by show m ≤ G.length; omega) hv (by
    have h : RelH c ((G ++ K) ++ l) w := hh
    rw [List.append_assoc] at h
    exact h)
theorem is76w_ac (m : Mz) (hm : Fits 2000000 m) (H : List ABox) : AC Tryd.prog 44 [.agg [.rd (.sli .i64) (m)]] H (fun r H' => r = .v (.bool (decide (MzOk m))) ∧ H' = H) := by
  obtain ⟨hm1, hm2⟩ := hm
  have h0 := hm2 0
  refine AC.enter envOk Tryd.func44 rfl (by decide) Tryd.ntmps44 Tryd.results44 (by simp) fun hB => ?_
  repeat' (first | (with_reducible first | refine AW.sreg envOk fun K hK => ?_ | refine AW.region envOk fun K hK => ?_ | refine vcL_nil ?_) | (with_reducible (first | refine vcL_cons fun K' hK' => ?_); simp only [isC, Bool.false_or, Bool.or_true, ↓reduceDIte, List.take_length, Nat.le_refl, List.drop_zero, vGuard, undef, Bool.not_eq_eq_eq_not, dstOk, vcOp, vcF, isPure, putS, vcCall, St.ev, St.put, lk, AVal.ofVal, initS, Nat.reduceLT, true_and, and_true, vBin, vUn, vPick, vPart, vLoad, vIdxA, vFldA, vLen, vBox, partsA, fillA, decAll, AVal.flat, AVal.cell, cellsOk, setRange, ETy.enc, ETy.dec, ETy.sz, ETy.d, cond, Nat.reduceBEq, Nat.reduceAdd, Int.toNat_natCast, List.length_set, List.length_append, List.length_replicate, List.length_take, Nat.reduceSub, Nat.reduceEqDiff, get_loc, setBox_loc, next_eq, List.length_cons, List.length_nil, List.map_cons, List.map_nil, List.append_nil, List.nil_append, List.cons_append, List.set_cons_zero, List.set_cons_succ, getD_zero, getD_succ, List.getElem?_cons_succ, List.getElem?_cons_zero, List.take_succ_cons, List.take_zero, List.drop_succ_cons, List.all_cons, List.all_nil, Bool.and_true, Bool.true_and, Option.bind_some, Option.map_some, Option.map_none, decide_eq_true_eq, decide_eq_false_iff_not, ne_eq, Bool.not_eq_true, Bool.not_eq_false, Decidable.not_not, not_true_eq_false, not_false_eq_true, forall_const, false_implies, Bool.true_eq_false, Bool.false_eq_true, reduceCtorEq, decide_true, decide_false, Bool.not_true, Bool.not_false, if_true, if_false, Nat.zero_add, Nat.lt_irrefl, Value.oneCell', gt_iff_lt, Nat.reduceLeDiff, Nat.lt_add_one, vvar_3, vzero_3, vknd_3, vsn_3, vvar_4, vzero_4, vknd_4, vsn_4, vsl_24, vkn_24, vvar_24, vzero_24, vsl_41, vkn_41, vvar_41, vzero_41, vvar_43, vzero_43, vbld_43, vfld_43_0, Int.toNat_zero, Int.reduceToNat]; try simp (disch := omega) only [wrap64]) | (with_reducible refine hK' _ ?_; clear hK' K') | (with_reducible refine hK _ ?_; clear hK K) | (with_reducible first | refine vCall_pure (in51_ac _ _ _ _) ?_ | refine And.intro (And.intro rfl rfl) ?_ | refine And.intro (by omega) ?_) | (with_reducible refine And.intro (fun hg => ?_) (fun hg => ?_) <;> first | simp only [eq_false hg, rsB] | simp only [eq_true hg, rsB] | simp only [hg, rsB]) | (with_reducible first | refine And.intro rfl (And.intro rfl rfl) | refine thenQ_n ?_ | refine thenQ_exit ?_ | refine thenQ_ret ?_ | refine midQ_ret ?_ | refine midQ_exit ?_ | refine blockQ_same ?_ | refine blockQ_ne (by decide) ?_ | refine blockQ_ret ?_ | refine blockQ_n ?_ | refine AW.exit ?_ | refine AW.block ?_ | refine AW.cond_t rfl ?_ | refine AW.cond_f rfl ?_ | refine AW.cond_dec rfl (fun hc => ?_) (fun hc => ?_)) | (with_reducible refine AW.cond rfl (fun hc => ?_) (fun hc => ?_) <;> try simp only [Bool.not_eq_eq_eq_not, Bool.not_true, Bool.not_false, decide_eq_true_eq, decide_eq_false_iff_not] at hc) | (with_reducible first | refine AW.seq ?_ | refine AW.skip ?_ | refine AW.ret ?_ | refine And.intro ?_ ?_) | (with_reducible intro hg; first | simp only [eq_false hg, rsB] | simp only [eq_true hg, rsB]) | (with_reducible refine retQ_drop ?_; simp only [vRes, packRes, vLoad, vPart, lk, cond, Nat.reduceBEq, get_loc, getD_zero, getD_succ, true_and, List.length_cons, List.length_nil, Nat.reduceAdd, Nat.reduceLT, Nat.reduceLeDiff, List.take_succ_cons, List.take_zero, List.drop_succ_cons, List.drop_zero, vvar_3, vzero_3, vknd_3, vsn_3, vvar_4, vzero_4, vknd_4, vsn_4, vsl_24, vkn_24, vvar_24, vzero_24, vsl_41, vkn_41, vvar_41, vzero_41, vvar_43, vzero_43, vbld_43, vfld_43_0]) )
  all_goals first
    | (refine ⟨_, _, FinOk.drop hB (Pl.ids (by (repeat' (first | exact Pl.v _ | exact Pl.junk | exact Pl.rd rfl _ | exact pl_nil | refine pl_cons ?_ ?_ | refine Pl.agg ?_ | refine Pl.tup ?_ | refine Pl.rp ?_ | refine Pl.fn ?_)); (first | done | fail))), ?_, rfl⟩
       refine v_bool ?_
       simp only [Bool.false_eq_true, false_iff]
       intro h; have h1 := h.1; have h2 := h.2.1; unfold width at h2; omega)
    | skip
  refine AW.loop (fun y : Nat => (⟨39, [(1, .ptr 1 (H.length + 0) 0 0), (20, .rd (.sli .i64) (m)), (21, .v (.int .i64 ((m.length : Int)))), (22, .v (.int .i64 ((y : Int))))], H, [.box false [.rd (.sli .i64) (m)]]⟩ : St)) (fun y => y ≤ m.length ∧ ∀ j, j < y → RowIs (width m) (m.getD j [])) (fun y => m.length - y) 0 ⟨Nat.zero_le _, fun j h => absurd h (by omega)⟩ (Weak.slots (by repeat' first | exact trivial | exact ⟨rfl, trivial⟩ | refine ⟨rfl, ?_⟩)) ?_
  intro y ⟨hy, hY⟩
  have hl := hm2 y
  repeat' (first | (with_reducible first | refine AW.sreg envOk fun K hK => ?_ | refine AW.region envOk fun K hK => ?_ | refine vcL_nil ?_) | (with_reducible (first | refine vcL_cons fun K' hK' => ?_); simp only [isC, Bool.false_or, Bool.or_true, ↓reduceDIte, List.take_length, Nat.le_refl, List.drop_zero, vGuard, undef, Bool.not_eq_eq_eq_not, dstOk, vcOp, vcF, isPure, putS, vcCall, St.ev, St.put, lk, AVal.ofVal, initS, Nat.reduceLT, true_and, and_true, vBin, vUn, vPick, vPart, vLoad, vIdxA, vFldA, vLen, vBox, partsA, fillA, decAll, AVal.flat, AVal.cell, cellsOk, setRange, ETy.enc, ETy.dec, ETy.sz, ETy.d, cond, Nat.reduceBEq, Nat.reduceAdd, Int.toNat_natCast, List.length_set, List.length_append, List.length_replicate, List.length_take, Nat.reduceSub, Nat.reduceEqDiff, get_loc, setBox_loc, next_eq, List.length_cons, List.length_nil, List.map_cons, List.map_nil, List.append_nil, List.nil_append, List.cons_append, List.set_cons_zero, List.set_cons_succ, getD_zero, getD_succ, List.getElem?_cons_succ, List.getElem?_cons_zero, List.take_succ_cons, List.take_zero, List.drop_succ_cons, List.all_cons, List.all_nil, Bool.and_true, Bool.true_and, Option.bind_some, Option.map_some, Option.map_none, decide_eq_true_eq, decide_eq_false_iff_not, ne_eq, Bool.not_eq_true, Bool.not_eq_false, Decidable.not_not, not_true_eq_false, not_false_eq_true, forall_const, false_implies, Bool.true_eq_false, Bool.false_eq_true, reduceCtorEq, decide_true, decide_false, Bool.not_true, Bool.not_false, if_true, if_false, Nat.zero_add, Nat.lt_irrefl, Value.oneCell', gt_iff_lt, Nat.reduceLeDiff, Nat.lt_add_one, vvar_3, vzero_3, vknd_3, vsn_3, vvar_4, vzero_4, vknd_4, vsn_4, vsl_24, vkn_24, vvar_24, vzero_24, vsl_41, vkn_41, vvar_41, vzero_41, vvar_43, vzero_43, vbld_43, vfld_43_0, Int.toNat_zero, Int.reduceToNat]; try simp (disch := omega) only [wrap64]) | (with_reducible refine hK' _ ?_; clear hK' K') | (with_reducible refine hK _ ?_; clear hK K) | (with_reducible first | refine vCall_pure (in51_ac _ _ _ _) ?_ | refine vCall_pure (cont59m_ac _ (by omega) _) ?_ | refine And.intro (And.intro rfl rfl) ?_ | refine And.intro (by omega) ?_) | (with_reducible refine And.intro (fun hg => ?_) (fun hg => ?_) <;> first | simp only [eq_false hg, rsB] | simp only [eq_true hg, rsB] | simp only [hg, rsB]) | (with_reducible first | refine And.intro rfl (And.intro rfl rfl) | refine thenQ_n ?_ | refine thenQ_exit ?_ | refine thenQ_ret ?_ | refine midQ_ret ?_ | refine midQ_exit ?_ | refine blockQ_same ?_ | refine blockQ_ne (by decide) ?_ | refine blockQ_ret ?_ | refine blockQ_n ?_ | refine AW.exit ?_ | refine AW.block ?_ | refine AW.cond_t rfl ?_ | refine AW.cond_f rfl ?_ | refine AW.cond_dec rfl (fun hc => ?_) (fun hc => ?_)) | (with_reducible refine AW.cond rfl (fun hc => ?_) (fun hc => ?_) <;> try simp only [Bool.not_eq_eq_eq_not, Bool.not_true, Bool.not_false, decide_eq_true_eq, decide_eq_false_iff_not] at hc) | (with_reducible first | refine AW.seq ?_ | refine AW.skip ?_ | refine AW.ret ?_ | refine And.intro ?_ ?_) | (with_reducible intro hg; first | simp only [eq_false hg, rsB] | simp only [eq_true hg, rsB]) | (with_reducible refine retQ_drop ?_; simp only [vRes, packRes, vLoad, vPart, lk, cond, Nat.reduceBEq, get_loc, getD_zero, getD_succ, true_and, List.length_cons, List.length_nil, Nat.reduceAdd, Nat.reduceLT, Nat.reduceLeDiff, List.take_succ_cons, List.take_zero, List.drop_succ_cons, List.drop_zero, vvar_3, vzero_3, vknd_3, vsn_3, vvar_4, vzero_4, vknd_4, vsn_4, vsl_24, vkn_24, vvar_24, vzero_24, vsl_41, vkn_41, vvar_41, vzero_41, vvar_43, vzero_43, vbld_43, vfld_43_0]) )
  all_goals first
    | (refine ⟨_, _, FinOk.drop hB (Pl.ids (by (repeat' (first | exact Pl.v _ | exact Pl.junk | exact Pl.rd rfl _ | exact pl_nil | refine pl_cons ?_ ?_ | refine Pl.agg ?_ | refine Pl.tup ?_ | refine Pl.rp ?_ | refine Pl.fn ?_)); (first | done | fail))), ?_, rfl⟩
       refine v_bool ?_
       simp only [Bool.false_eq_true, false_iff]
       intro h
       have h1 := h.2.2 y (by omega)
       have h2 := h1.1
       unfold width at h2
       first | omega | exact absurd h1.2 (by assumption))
    | (refine ⟨y + 1, ⟨by omega, fun j hj => ?_⟩, by omega, (Weak.slots (by repeat' first | exact trivial | exact ⟨rfl, trivial⟩ | refine ⟨rfl, ?_⟩))⟩
       by_cases e : j = y
       · subst e
         refine ⟨by unfold width; omega, by assumption⟩
       · exact hY j (by omega))
    | (refine ⟨_, _, FinOk.drop hB (Pl.ids (by (repeat' (first | exact Pl.v _ | exact Pl.junk | exact Pl.rd rfl _ | exact pl_nil | refine pl_cons ?_ ?_ | refine Pl.agg ?_ | refine Pl.tup ?_ | refine Pl.rp ?_ | refine Pl.fn ?_)); (first | done | fail))), ?_, rfl⟩
       refine v_bool ?_
       simp only [true_iff]
       exact ⟨by omega, by unfold width; omega, fun j hj => hY j (by omega)⟩)
/-- The rows of parts. -/
def rowsP (P : List ByteArray) : Mz := P.map fun p => rowR p.data.toList
theorem rowsP_len (P : List ByteArray) : (rowsP P).length = P.length := by simp [rowsP]
theorem rowsP_take {P : List ByteArray} {i : Nat} (h : i < P.length) : rowsP (P.take (i + 1)) = rowsP (P.take i) ++ [rowR (P.getD i ByteArray.empty).data.toList] := by
  have e : P.take (i + 1) = P.take i ++ [P.getD i ByteArray.empty] := by rw [List.take_add_one, List.getElem?_eq_getElem h]; simp [List.getD, h]
  rw [e]; simp [rowsP]
theorem rowR_len (l : List UInt8) : (rowR l).length = l.length := by simp [rowR]
theorem rowR_snoc (l : List UInt8) (c : UInt8) : rowR (l ++ [c]) = rowR l ++ [convB c] := by simp [rowR]
theorem rowsP_get {P : List ByteArray} {i : Nat} (h : i < P.length) : (rowsP P).getD i [] = rowR (P.getD i ByteArray.empty).data.toList := by simp [rowsP, List.getD, h]
/-- The first i parts bear letters of mazes only. -/
def GoodP (P : List ByteArray) (i : Nat) : Prop := ∀ k, k < i → ∀ c ∈ (P.getD k ByteArray.empty).data.toList, GoodB c
theorem mzR_P (s : ByteArray) : mzR s = rowsP (ptsS 47 s) := by
  unfold mzR rowsR rowsP ptsS
  rw [List.map_map]
  exact List.map_congr_left fun l _ => rfl
theorem goodS_P (s : ByteArray) : GoodS s ↔ GoodP (ptsS 47 s) (ptsS 47 s).length := by
  have hl : (ptsS 47 s).length = (pts 47 s.data.toList).length := by simp [ptsS]
  constructor
  · intro h k hk c hc
    have hk' : k < (pts 47 s.data.toList).length := by omega
    have e : ((ptsS 47 s).getD k ByteArray.empty).data.toList = (pts 47 s.data.toList)[k] := by simp [ptsS, List.getD, hk']
    rw [e] at hc
    exact h _ (List.getElem_mem hk') c hc
  · intro h p hp c hc
    obtain ⟨k, hk, ek⟩ := List.mem_iff_getElem.1 hp
    refine h k (by omega) c ?_
    have e : ((ptsS 47 s).getD k ByteArray.empty).data.toList = (pts 47 s.data.toList)[k] := by simp [ptsS, List.getD, hk]
    rw [e, ek]; exact hc
theorem rdm_some {s : ByteArray} (h1 : GoodP (ptsS 47 s) (ptsS 47 s).length) (h2 : MzOk (rowsP (ptsS 47 s))) : rdm s = some (rowsP (ptsS 47 s)) := by
  unfold rdm
  rw [mzR_P, if_pos ⟨(goodS_P s).2 h1, h2⟩]
theorem rdm_none {s : ByteArray} (h : GoodP (ptsS 47 s) (ptsS 47 s).length → ¬ MzOk (rowsP (ptsS 47 s))) : rdm s = none := by
  unfold rdm
  rw [mzR_P, if_neg]
  rintro ⟨h1, h2⟩
  exact h ((goodS_P s).1 h1) h2
def RmPost (o : Option Mz) (H : List ABox) (r : AVal) (H' : List ABox) : Prop := (∃ m, o = some m ∧ r = .tup [.agg [.sl 1 (H.length + m.length) 0 m.length], .v (.bool (true))] ∧ H' = H ++ (Eng.rowsB m ++ [.row false (.own .i64) (refs H.length m)])) ∨ (o = none ∧ r = .tup [.agg [.v (.slice none 0 0)], .v (.bool (false))] ∧ H' = H)
theorem lent_rm {G H : List ABox} {xs : Mz} {a b c : ABox} {k : Nat} (hH : G ++ Eng.rowsB xs = H) (hk : k = H.length + 3) : LentV (H ++ [a, b, c, .row false (.own .i64) (refs G.length xs)]) (.sl 1 k 0 xs.length) (.rd (.sli .i64) (xs)) := by
  subst hH; subst hk
  refine LentV.refs (pre := []) (post := []) (ro := false) (g := G.length) (by rw [List.getElem?_append_right (by omega)]; simp) (fun i hi => ?_) rfl
  rw [List.append_assoc, List.getElem?_append_right (by omega), Nat.add_sub_cancel_left, List.getElem?_append_left (by rw [rowsB_len]; exact hi), rowsB_get hi]
noncomputable def rm0 (P : List ByteArray) (H : List ABox) : St := (⟨60, [(2, .ptr 1 (H.length + 0) 0 0), (4, .ptr 1 (H.length + 1) 0 0), (12, .sl 1 (H.length + 2) 0 (P.length)), (13, .v (.int .i64 ((P.length : Int)))), (14, .v (.int .i64 (((0 : Nat) : Int))))], H, [.box false [.v (.slice none 0 0)], .box false [.v (.slice none 0 0)], .row false .str P]⟩ : St)
noncomputable def rmI (P : List ByteArray) (H : List ABox) (os : List (Option (Nat × Nat))) (i : Nat) : St := (⟨60, [(2, .ptr 1 (H.length + 0) 0 0), (4, .ptr 1 (H.length + 1) 0 0), (12, .sl 1 (H.length + 2) 0 (P.length)), (13, .v (.int .i64 ((P.length : Int)))), (14, .v (.int .i64 ((i : Int))))], H, [.box false [.v (.slice none 0 0)], .box false [.sl 1 (H.length + 3) 0 i], .row false .str P, .row false (.own .i64) os]⟩ : St)
noncomputable def rmG (P : List ByteArray) (H : List ABox) (os : List (Option (Nat × Nat))) (x : List Int) (i : Nat) : St := (⟨60, [(2, .ptr 1 (H.length + 1) 0 0), (4, .ptr 1 (H.length + 2) 0 0), (12, .sl 1 (H.length + 3) 0 (P.length)), (13, .v (.int .i64 ((P.length : Int)))), (14, .v (.int .i64 ((i : Int))))], H, [.row false (.int .i64) x, .box false [.v (.slice none 0 0)], .box false [.sl 1 (H.length + 4) 0 i], .row false .str P, .row false (.own .i64) os]⟩ : St)
noncomputable def rmA (P : List ByteArray) (H : List ABox) (p : ByteArray) (x : List Int) (j : Nat) : St := (⟨60, [(2, .ptr 1 (H.length + 0) 0 0), (4, .ptr 1 (H.length + 1) 0 0), (6, .v (.string (p))), (7, .sl 1 (H.length + 3) 0 (j)), (12, .sl 1 (H.length + 2) 0 (P.length)), (13, .v (.int .i64 ((P.length : Int)))), (14, .v (.int .i64 (((0 : Nat) : Int)))), (20, .v (.int .i64 ((p.size : Int)))), (21, .v (.int .i64 ((j : Int))))], H, [.box false [.v (.slice none 0 0)], .box false [.v (.slice none 0 0)], .row false .str P, .row false (.int .i64) x]⟩ : St)
noncomputable def rmB (P : List ByteArray) (H : List ABox) (os : List (Option (Nat × Nat))) (i : Nat) (p : ByteArray) (x : List Int) (j : Nat) : St := (⟨60, [(2, .ptr 1 (H.length + 0) 0 0), (4, .ptr 1 (H.length + 1) 0 0), (6, .v (.string (p))), (7, .sl 1 (H.length + 4) 0 (j)), (12, .sl 1 (H.length + 2) 0 (P.length)), (13, .v (.int .i64 ((P.length : Int)))), (14, .v (.int .i64 ((i : Int)))), (20, .v (.int .i64 ((p.size : Int)))), (21, .v (.int .i64 ((j : Int))))], H, [.box false [.v (.slice none 0 0)], .box false [.sl 1 (H.length + 3) 0 i], .row false .str P, .row false (.own .i64) os, .row false (.int .i64) x]⟩ : St)
theorem read40_ac (s : ByteArray) (hs : s.size ≤ 1048576) {G : List ABox} (hm : HasMax G) : AC Tryd.prog 23 [.v (.string (s))] G (RmPost (rdm s) G) := by
  have hpl := ptsS_len 47 s
  have hps := ptsS_size 47 s
  have hp0 : 0 < (ptsS 47 s).length := by
    unfold ptsS
    rw [List.length_map]
    exact List.length_pos_iff.2 (pts_ne 47 _)
  have hr1 := rdm_some (s := s)
  have hr2 := rdm_none (s := s)
  have hc := fun {H : List ABox} (hm : HasMax H) => split_ac s hs 47 hm
  generalize ptsS 47 s = P at hpl hps hp0 hr1 hr2 hc
  refine AC.enter envOk2 Tryd.func23 rfl (by decide) Tryd.ntmps23 Tryd.results23 (by simp) fun hB => ?_
  have hBG := hB
  repeat' (first | (with_reducible first | refine AW.sreg envOk2 fun K hK => ?_ | refine AW.region envOk2 fun K hK => ?_ | refine vcL_nil ?_) | (with_reducible (first | refine vcL_cons fun K' hK' => ?_); simp only [isC, Bool.false_or, Bool.or_true, vAppend, elems, ↓reduceDIte, List.take_length, Nat.le_refl, List.drop_zero, vGuard, undef, Bool.not_eq_eq_eq_not, dstOk, vcOp, vcF, isPure, putS, vcCall, St.ev, St.put, lk, AVal.ofVal, initS, Nat.reduceLT, true_and, and_true, vBin, vUn, vPick, vConv, vPart, vLoad, vStore, vIdxA, vIdx, vFldA, vLen, vAlloc, vBuild, vBuildSl, partsA, fillA, decAll, AVal.flat, AVal.cell, cellsOk, setRange, ETy.enc, ETy.dec, ETy.sz, ETy.d, cond, Nat.reduceBEq, Nat.reduceAdd, Int.toNat_natCast, List.length_set, List.length_append, List.length_replicate, List.length_take, Nat.reduceSub, Nat.reduceEqDiff, get_loc, setBox_loc, next_eq, List.length_cons, List.length_nil, List.map_cons, List.map_nil, List.append_nil, List.nil_append, List.cons_append, List.set_cons_zero, List.set_cons_succ, getD_zero, getD_succ, List.getElem?_cons_succ, List.getElem?_cons_zero, List.take_succ_cons, List.take_zero, List.drop_succ_cons, List.all_cons, List.all_nil, Bool.and_true, Bool.true_and, Option.bind_some, Option.map_some, Option.map_none, decide_eq_true_eq, decide_eq_false_iff_not, ne_eq, Bool.not_eq_true, Bool.not_eq_false, Decidable.not_not, not_true_eq_false, not_false_eq_true, forall_const, false_implies, Bool.true_eq_false, Bool.false_eq_true, reduceCtorEq, decide_true, decide_false, Bool.not_true, Bool.not_false, if_true, if_false, Nat.zero_add, Nat.lt_irrefl, Value.oneCell', gt_iff_lt, Nat.reduceLeDiff, Nat.lt_add_one, vSealSl, wvar_1, wzero_1, wvar_2, wzero_2, wknd_2, wsn_2, wvar_3, wzero_3, wknd_3, wsn_3, wvar_4, wzero_4, wknd_4, wsn_4, wvar_5, wzero_5, wknd_5, wsn_5, wvar_9, wzero_9, wknd_9, wsn_9, wsl_24, wkn_24, wvar_24, wzero_24, wsl_41, wkn_41, wvar_41, wzero_41, wvar_43, wzero_43, wbld_43, wsl_81, wkn_81, wvar_81, wzero_81, wfld_43_0]; try simp (disch := omega) only [wrap64]) | (with_reducible refine hK' _ ?_; clear hK' K') | (with_reducible refine hK _ ?_; clear hK K) | ((with_reducible show vCall _ (AVal.fn 47 _) _ _ _); refine vCall_newE (hc (hm.app _)) (by simp only [List.length_append, List.length_cons, List.length_nil, Nat.reduceAdd]; rfl) ?_) | (with_reducible first | refine And.intro (And.intro rfl rfl) ?_ | refine And.intro (by omega) ?_) | (with_reducible refine And.intro (fun hg => ?_) (fun hg => ?_) <;> first | simp only [eq_false hg, rsB] | simp only [eq_true hg, rsB] | simp only [hg, rsB]) | (with_reducible first | refine And.intro rfl (And.intro rfl rfl) | refine thenQ_n ?_ | refine thenQ_exit ?_ | refine thenQ_ret ?_ | refine midQ_ret ?_ | refine midQ_exit ?_ | refine blockQ_same ?_ | refine blockQ_ne (by decide) ?_ | refine blockQ_ret ?_ | refine blockQ_n ?_ | refine AW.exit ?_ | refine AW.block ?_ | refine AW.cond_t rfl ?_ | refine AW.cond_f rfl ?_ | refine AW.cond_dec rfl (fun hc => ?_) (fun hc => ?_)) | (with_reducible refine AW.cond rfl (fun hc => ?_) (fun hc => ?_) <;> try simp only [Bool.not_eq_eq_eq_not, Bool.not_true, Bool.not_false, decide_eq_true_eq, decide_eq_false_iff_not] at hc) | (with_reducible first | refine AW.seq ?_ | refine AW.skip ?_ | refine AW.ret ?_ | refine And.intro ?_ ?_) | (with_reducible intro hg; first | simp only [eq_false hg, rsB] | simp only [eq_true hg, rsB]) | (with_reducible refine retQ_drop ?_; simp only [vRes, packRes, vLoad, vPart, lk, cond, Nat.reduceBEq, get_loc, getD_zero, getD_succ, true_and, List.length_cons, List.length_nil, Nat.reduceAdd, Nat.reduceLT, Nat.reduceLeDiff, List.take_succ_cons, List.take_zero, List.drop_succ_cons, List.drop_zero, wvar_1, wzero_1, wvar_2, wzero_2, wknd_2, wsn_2, wvar_3, wzero_3, wknd_3, wsn_3, wvar_4, wzero_4, wknd_4, wsn_4, wvar_5, wzero_5, wknd_5, wsn_5, wvar_9, wzero_9, wknd_9, wsn_9, wsl_24, wkn_24, wvar_24, wzero_24, wsl_41, wkn_41, wvar_41, wzero_41, wvar_43, wzero_43, wbld_43, wsl_81, wkn_81, wvar_81, wzero_81, wfld_43_0]) )
  refine AW.loop (fun i : Nat => if i = 0 then rm0 P G else rmI P (G ++ Eng.rowsB (rowsP (P.take i))) (refs G.length (rowsP (P.take i))) i) (fun i => i ≤ P.length ∧ GoodP P i) (fun i => P.length - i) 0 ⟨Nat.zero_le _, fun k hk => absurd hk (by omega)⟩ ?_ ?_
  · rw [if_pos rfl]
    unfold rm0
    exact (Weak.sel [0, 1, 2] hB (by decide) (by (repeat' (first | exact trivial | exact RenB.plRow rfl | exact RenB.dead _ | exact RenB.ownKeep (by assumption) | exact RenB.ownSnoc (by assumption) rfl | exact RenB.ownAt (by assumption) (by assumption) rfl | exact RenB.own2 (by assumption) rfl rfl | exact RenB.map _ _ | exact RenB.iter rfl | refine And.intro ?_ ?_ | (refine RenB.plBox ?_; (repeat' (first | exact Pl.v _ | exact Pl.junk | exact Pl.rd rfl _ | exact pl_nil | refine pl_cons ?_ ?_ | refine Pl.agg ?_ | refine Pl.tup ?_ | refine Pl.rp ?_ | refine Pl.fn ?_)); (first | done | fail)) | refine RenB.of ?_ | exact RenV.ptr rfl | exact RenV.sl rfl | exact RenV.mp rfl | exact RenV.it rfl | exact RenV.low (IdsLt.mp (by assumption)) | (refine RenV.pl ?_; (repeat' (first | exact Pl.v _ | exact Pl.junk | exact Pl.rd rfl _ | exact pl_nil | refine pl_cons ?_ ?_ | refine Pl.agg ?_ | refine Pl.tup ?_ | refine Pl.rp ?_ | refine Pl.fn ?_)); (first | done | fail)) | refine RenV.aggL ?_ | refine RenV.fnL ?_ | exact Nat.lt_of_sub_pos (by decide) | (simp; (first | done | fail)))); (first | done | fail)) (by (repeat' (first | exact trivial | exact RenV.ptr rfl | exact RenV.sl rfl | exact RenV.mp rfl | exact RenV.it rfl | exact RenV.low (IdsLt.mp (by assumption)) | exact RenV.low (.v _) | exact RenV.low (IdsLt.ptr (by assumption)) | (refine RenV.pl ?_; (repeat' (first | exact Pl.v _ | exact Pl.junk | exact Pl.rd rfl _ | exact pl_nil | refine pl_cons ?_ ?_ | refine Pl.agg ?_ | refine Pl.tup ?_ | refine Pl.rp ?_ | refine Pl.fn ?_)); (first | done | fail)) | refine RenV.fnL ?_ | refine RenV.aggL ?_ | refine And.intro ?_ ?_)); (first | done | fail)))
  intro i ⟨hi, hI⟩
  have hps' := hps i
  have htl : (rowsP (P.take i)).length = i := by rw [rowsP_len, List.length_take]; omega
  obtain ⟨p, hpd⟩ : ∃ p, P.getD i ByteArray.empty = p := ⟨_, rfl⟩
  rw [hpd] at hps'
  by_cases h0 : i = 0
  · subst h0
    rw [if_pos rfl]
    unfold rm0
    have hlt0 : OwnLt G.length [] := fun i hi => by simp at hi
    repeat' (first | (with_reducible first | refine AW.sreg envOk2 fun K hK => ?_ | refine AW.region envOk2 fun K hK => ?_ | refine vcL_nil ?_) | (with_reducible (first | refine vcL_cons fun K' hK' => ?_); simp only [isC, Bool.false_or, Bool.or_true, vAppend, elems, ↓reduceDIte, List.take_length, Nat.le_refl, List.drop_zero, vGuard, undef, Bool.not_eq_eq_eq_not, dstOk, vcOp, vcF, isPure, putS, vcCall, St.ev, St.put, lk, AVal.ofVal, initS, Nat.reduceLT, true_and, and_true, vBin, vUn, vPick, vConv, vPart, vLoad, vStore, vIdxA, vIdx, vFldA, vLen, vAlloc, vBuild, vBuildSl, partsA, fillA, decAll, AVal.flat, AVal.cell, cellsOk, setRange, ETy.enc, ETy.dec, ETy.sz, ETy.d, cond, Nat.reduceBEq, Nat.reduceAdd, Int.toNat_natCast, List.length_set, List.length_append, List.length_replicate, List.length_take, Nat.reduceSub, Nat.reduceEqDiff, get_loc, setBox_loc, next_eq, List.length_cons, List.length_nil, List.map_cons, List.map_nil, List.append_nil, List.nil_append, List.cons_append, List.set_cons_zero, List.set_cons_succ, getD_zero, getD_succ, List.getElem?_cons_succ, List.getElem?_cons_zero, List.take_succ_cons, List.take_zero, List.drop_succ_cons, List.all_cons, List.all_nil, Bool.and_true, Bool.true_and, Option.bind_some, Option.map_some, Option.map_none, decide_eq_true_eq, decide_eq_false_iff_not, ne_eq, Bool.not_eq_true, Bool.not_eq_false, Decidable.not_not, not_true_eq_false, not_false_eq_true, forall_const, false_implies, Bool.true_eq_false, Bool.false_eq_true, reduceCtorEq, decide_true, decide_false, Bool.not_true, Bool.not_false, if_true, if_false, Nat.zero_add, Nat.lt_irrefl, Value.oneCell', gt_iff_lt, Nat.reduceLeDiff, Nat.lt_add_one, vSealSl, wvar_1, wzero_1, wvar_2, wzero_2, wknd_2, wsn_2, wvar_3, wzero_3, wknd_3, wsn_3, wvar_4, wzero_4, wknd_4, wsn_4, wvar_5, wzero_5, wknd_5, wsn_5, wvar_9, wzero_9, wknd_9, wsn_9, wsl_24, wkn_24, wvar_24, wzero_24, wsl_41, wkn_41, wvar_41, wzero_41, wvar_43, wzero_43, wbld_43, wsl_81, wkn_81, wvar_81, wzero_81, wfld_43_0, hpd]; try simp (disch := omega) only [wrap64]) | (with_reducible refine hK' _ ?_; clear hK' K') | (with_reducible refine hK _ ?_; clear hK K) | (with_reducible first | refine And.intro (And.intro rfl rfl) ?_ | refine And.intro (by omega) ?_) | (with_reducible refine And.intro (fun hg => ?_) (fun hg => ?_) <;> first | simp only [eq_false hg, rsB] | simp only [eq_true hg, rsB] | simp only [hg, rsB]) | (with_reducible first | refine And.intro rfl (And.intro rfl rfl) | refine thenQ_n ?_ | refine thenQ_exit ?_ | refine thenQ_ret ?_ | refine midQ_ret ?_ | refine midQ_exit ?_ | refine blockQ_same ?_ | refine blockQ_ne (by decide) ?_ | refine blockQ_ret ?_ | refine blockQ_n ?_ | refine AW.exit ?_ | refine AW.block ?_ | refine AW.cond_t rfl ?_ | refine AW.cond_f rfl ?_ | refine AW.cond_dec rfl (fun hc => ?_) (fun hc => ?_)) | (with_reducible refine AW.cond rfl (fun hc => ?_) (fun hc => ?_) <;> try simp only [Bool.not_eq_eq_eq_not, Bool.not_true, Bool.not_false, decide_eq_true_eq, decide_eq_false_iff_not] at hc) | (with_reducible first | refine AW.seq ?_ | refine AW.skip ?_ | refine AW.ret ?_ | refine And.intro ?_ ?_) | (with_reducible intro hg; first | simp only [eq_false hg, rsB] | simp only [eq_true hg, rsB]) | (with_reducible refine retQ_drop ?_; simp only [vRes, packRes, vLoad, vPart, lk, cond, Nat.reduceBEq, get_loc, getD_zero, getD_succ, true_and, List.length_cons, List.length_nil, Nat.reduceAdd, Nat.reduceLT, Nat.reduceLeDiff, List.take_succ_cons, List.take_zero, List.drop_succ_cons, List.drop_zero, wvar_1, wzero_1, wvar_2, wzero_2, wknd_2, wsn_2, wvar_3, wzero_3, wknd_3, wsn_3, wvar_4, wzero_4, wknd_4, wsn_4, wvar_5, wzero_5, wknd_5, wsn_5, wvar_9, wzero_9, wknd_9, wsn_9, wsl_24, wkn_24, wvar_24, wzero_24, wsl_41, wkn_41, wvar_41, wzero_41, wvar_43, wzero_43, wbld_43, wsl_81, wkn_81, wvar_81, wzero_81, wfld_43_0]) )
    all_goals first
      | (exfalso; omega)
      | skip
    refine AW.loop (fun j : Nat => rmA P G p (rowR (p.data.toList.take j)) j) (fun j => j ≤ p.size ∧ ∀ c ∈ p.data.toList.take j, GoodB c) (fun j => p.size - j) 0 ⟨Nat.zero_le _, fun c hc => by simp at hc⟩ ?_ ?_
    · unfold rmA
      rw [List.take_zero, show rowR [] = [] from rfl]
      exact (Weak.sel [0, 1, 2, 3] hB (by decide) (by (repeat' (first | exact trivial | exact RenB.plRow rfl | exact RenB.dead _ | exact RenB.ownKeep (by assumption) | exact RenB.ownSnoc (by assumption) rfl | exact RenB.ownAt (by assumption) (by assumption) rfl | exact RenB.own2 (by assumption) rfl rfl | exact RenB.map _ _ | exact RenB.iter rfl | refine And.intro ?_ ?_ | (refine RenB.plBox ?_; (repeat' (first | exact Pl.v _ | exact Pl.junk | exact Pl.rd rfl _ | exact pl_nil | refine pl_cons ?_ ?_ | refine Pl.agg ?_ | refine Pl.tup ?_ | refine Pl.rp ?_ | refine Pl.fn ?_)); (first | done | fail)) | refine RenB.of ?_ | exact RenV.ptr rfl | exact RenV.sl rfl | exact RenV.mp rfl | exact RenV.it rfl | exact RenV.low (IdsLt.mp (by assumption)) | (refine RenV.pl ?_; (repeat' (first | exact Pl.v _ | exact Pl.junk | exact Pl.rd rfl _ | exact pl_nil | refine pl_cons ?_ ?_ | refine Pl.agg ?_ | refine Pl.tup ?_ | refine Pl.rp ?_ | refine Pl.fn ?_)); (first | done | fail)) | refine RenV.aggL ?_ | refine RenV.fnL ?_ | exact Nat.lt_of_sub_pos (by decide) | (simp; (first | done | fail)))); (first | done | fail)) (by (repeat' (first | exact trivial | exact RenV.ptr rfl | exact RenV.sl rfl | exact RenV.mp rfl | exact RenV.it rfl | exact RenV.low (IdsLt.mp (by assumption)) | exact RenV.low (.v _) | exact RenV.low (IdsLt.ptr (by assumption)) | (refine RenV.pl ?_; (repeat' (first | exact Pl.v _ | exact Pl.junk | exact Pl.rd rfl _ | exact pl_nil | refine pl_cons ?_ ?_ | refine Pl.agg ?_ | refine Pl.tup ?_ | refine Pl.rp ?_ | refine Pl.fn ?_)); (first | done | fail)) | refine RenV.fnL ?_ | refine RenV.aggL ?_ | refine And.intro ?_ ?_)); (first | done | fail)))
    intro j ⟨hj, hJ⟩
    unfold rmA
    have hxl : (rowR (p.data.toList.take j)).length = j := by rw [rowR_len, List.length_take, data_len]; omega
    have hxt : (rowR (p.data.toList.take j)).take j = rowR (p.data.toList.take j) := List.take_of_length_le (by omega)
    by_cases hjn : j < p.size
    · obtain ⟨c, hb1, hb2⟩ := byte_list hjn
      have hcl := c.toNat_lt
      have hcm : c ∈ p.data.toList := by
        have : c ∈ p.data.toList.take (j + 1) := by rw [hb2]; simp
        exact List.mem_of_mem_take this
      have hnx : GoodB c → ∀ d ∈ p.data.toList.take (j + 1), GoodB d := fun hg d hd => by
        rw [hb2, List.mem_append] at hd
        rcases hd with h | h
        · exact hJ d h
        · rw [List.mem_singleton.1 h]; exact hg
      have hrs : rowR (p.data.toList.take (j + 1)) = rowR (p.data.toList.take j) ++ [convB c] := by rw [hb2, rowR_snoc]
      by_cases h35 : byteAt p j = 35
      · have hc35 : c = 35 := UInt8.toNat_inj.1 (by show c.toNat = 35; omega)
        have hcv : convB c = 0 := if_pos hc35
        rw [hcv] at hrs
        have hgd : GoodB c := .inl hc35
        repeat' (first | (with_reducible first | refine AW.sreg envOk2 fun K hK => ?_ | refine AW.region envOk2 fun K hK => ?_ | refine vcL_nil ?_) | (with_reducible (first | refine vcL_cons fun K' hK' => ?_); simp only [isC, Bool.false_or, Bool.or_true, vAppend, elems, ↓reduceDIte, List.take_length, Nat.le_refl, List.drop_zero, vGuard, undef, Bool.not_eq_eq_eq_not, dstOk, vcOp, vcF, isPure, putS, vcCall, St.ev, St.put, lk, AVal.ofVal, initS, Nat.reduceLT, true_and, and_true, vBin, vUn, vPick, vConv, vPart, vLoad, vStore, vIdxA, vIdx, vFldA, vLen, vAlloc, vBuild, vBuildSl, partsA, fillA, decAll, AVal.flat, AVal.cell, cellsOk, setRange, ETy.enc, ETy.dec, ETy.sz, ETy.d, cond, Nat.reduceBEq, Nat.reduceAdd, Int.toNat_natCast, List.length_set, List.length_append, List.length_replicate, List.length_take, Nat.reduceSub, Nat.reduceEqDiff, get_loc, setBox_loc, next_eq, List.length_cons, List.length_nil, List.map_cons, List.map_nil, List.append_nil, List.nil_append, List.cons_append, List.set_cons_zero, List.set_cons_succ, getD_zero, getD_succ, List.getElem?_cons_succ, List.getElem?_cons_zero, List.take_succ_cons, List.take_zero, List.drop_succ_cons, List.all_cons, List.all_nil, Bool.and_true, Bool.true_and, Option.bind_some, Option.map_some, Option.map_none, decide_eq_true_eq, decide_eq_false_iff_not, ne_eq, Bool.not_eq_true, Bool.not_eq_false, Decidable.not_not, not_true_eq_false, not_false_eq_true, forall_const, false_implies, Bool.true_eq_false, Bool.false_eq_true, reduceCtorEq, decide_true, decide_false, Bool.not_true, Bool.not_false, if_true, if_false, Nat.zero_add, Nat.lt_irrefl, Value.oneCell', gt_iff_lt, Nat.reduceLeDiff, Nat.lt_add_one, vSealSl, wvar_1, wzero_1, wvar_2, wzero_2, wknd_2, wsn_2, wvar_3, wzero_3, wknd_3, wsn_3, wvar_4, wzero_4, wknd_4, wsn_4, wvar_5, wzero_5, wknd_5, wsn_5, wvar_9, wzero_9, wknd_9, wsn_9, wsl_24, wkn_24, wvar_24, wzero_24, wsl_41, wkn_41, wvar_41, wzero_41, wvar_43, wzero_43, wbld_43, wsl_81, wkn_81, wvar_81, wzero_81, wfld_43_0, hxl, hxt]; try simp (disch := omega) only [wrap64]) | (with_reducible refine hK' _ ?_; clear hK' K') | (with_reducible refine hK _ ?_; clear hK K) | (with_reducible first | refine And.intro (And.intro rfl rfl) ?_ | refine And.intro (by omega) ?_) | (with_reducible refine And.intro (fun hg => ?_) (fun hg => ?_) <;> first | simp only [eq_false hg, rsB] | simp only [eq_true hg, rsB] | simp only [hg, rsB]) | (with_reducible first | refine And.intro rfl (And.intro rfl rfl) | refine thenQ_n ?_ | refine thenQ_exit ?_ | refine thenQ_ret ?_ | refine midQ_ret ?_ | refine midQ_exit ?_ | refine blockQ_same ?_ | refine blockQ_ne (by decide) ?_ | refine blockQ_ret ?_ | refine blockQ_n ?_ | refine AW.exit ?_ | refine AW.block ?_ | refine AW.cond_t rfl ?_ | refine AW.cond_f rfl ?_ | refine AW.cond_dec rfl (fun hc => ?_) (fun hc => ?_)) | (with_reducible refine AW.cond rfl (fun hc => ?_) (fun hc => ?_) <;> try simp only [Bool.not_eq_eq_eq_not, Bool.not_true, Bool.not_false, decide_eq_true_eq, decide_eq_false_iff_not] at hc) | (with_reducible first | refine AW.seq ?_ | refine AW.skip ?_ | refine AW.ret ?_ | refine And.intro ?_ ?_) | (with_reducible intro hg; first | simp only [eq_false hg, rsB] | simp only [eq_true hg, rsB]) | (with_reducible refine retQ_drop ?_; simp only [vRes, packRes, vLoad, vPart, lk, cond, Nat.reduceBEq, get_loc, getD_zero, getD_succ, true_and, List.length_cons, List.length_nil, Nat.reduceAdd, Nat.reduceLT, Nat.reduceLeDiff, List.take_succ_cons, List.take_zero, List.drop_succ_cons, List.drop_zero, wvar_1, wzero_1, wvar_2, wzero_2, wknd_2, wsn_2, wvar_3, wzero_3, wknd_3, wsn_3, wvar_4, wzero_4, wknd_4, wsn_4, wvar_5, wzero_5, wknd_5, wsn_5, wvar_9, wzero_9, wknd_9, wsn_9, wsl_24, wkn_24, wvar_24, wzero_24, wsl_41, wkn_41, wvar_41, wzero_41, wvar_43, wzero_43, wbld_43, wsl_81, wkn_81, wvar_81, wzero_81, wfld_43_0]) )
        all_goals first
          | (exfalso; omega)
          | skip
        refine ⟨j + 1, ⟨by omega, hnx hgd⟩, by omega, ?_⟩
        rw [hrs]
        exact (Weak.sel [0, 1, 2, 5] hB (by decide) (by (repeat' (first | exact trivial | exact RenB.plRow rfl | exact RenB.dead _ | exact RenB.ownKeep (by assumption) | exact RenB.ownSnoc (by assumption) rfl | exact RenB.ownAt (by assumption) (by assumption) rfl | exact RenB.own2 (by assumption) rfl rfl | exact RenB.map _ _ | exact RenB.iter rfl | refine And.intro ?_ ?_ | (refine RenB.plBox ?_; (repeat' (first | exact Pl.v _ | exact Pl.junk | exact Pl.rd rfl _ | exact pl_nil | refine pl_cons ?_ ?_ | refine Pl.agg ?_ | refine Pl.tup ?_ | refine Pl.rp ?_ | refine Pl.fn ?_)); (first | done | fail)) | refine RenB.of ?_ | exact RenV.ptr rfl | exact RenV.sl rfl | exact RenV.mp rfl | exact RenV.it rfl | exact RenV.low (IdsLt.mp (by assumption)) | (refine RenV.pl ?_; (repeat' (first | exact Pl.v _ | exact Pl.junk | exact Pl.rd rfl _ | exact pl_nil | refine pl_cons ?_ ?_ | refine Pl.agg ?_ | refine Pl.tup ?_ | refine Pl.rp ?_ | refine Pl.fn ?_)); (first | done | fail)) | refine RenV.aggL ?_ | refine RenV.fnL ?_ | exact Nat.lt_of_sub_pos (by decide) | (simp; (first | done | fail)))); (first | done | fail)) (by (repeat' (first | exact trivial | exact RenV.ptr rfl | exact RenV.sl rfl | exact RenV.mp rfl | exact RenV.it rfl | exact RenV.low (IdsLt.mp (by assumption)) | exact RenV.low (.v _) | exact RenV.low (IdsLt.ptr (by assumption)) | (refine RenV.pl ?_; (repeat' (first | exact Pl.v _ | exact Pl.junk | exact Pl.rd rfl _ | exact pl_nil | refine pl_cons ?_ ?_ | refine Pl.agg ?_ | refine Pl.tup ?_ | refine Pl.rp ?_ | refine Pl.fn ?_)); (first | done | fail)) | refine RenV.fnL ?_ | refine RenV.aggL ?_ | refine And.intro ?_ ?_)); (first | done | fail)))
      · have hc35 : ¬ c = 35 := fun e => h35 (by rw [hb1, e]; rfl)
        by_cases hdg : 49 ≤ byteAt p j ∧ byteAt p j ≤ 57
        · have hcv : convB c = byteAt p j - 48 := by rw [hb1]; exact if_neg hc35
          have wu : IntKind.u8.wrap (byteAt p j - 48) = byteAt p j - 48 := wrap8 (by omega)
          rw [hcv] at hrs
          have hgd : GoodB c := .inr ⟨by omega, by omega⟩
          repeat' (first | (with_reducible first | refine AW.sreg envOk2 fun K hK => ?_ | refine AW.region envOk2 fun K hK => ?_ | refine vcL_nil ?_) | (with_reducible (first | refine vcL_cons fun K' hK' => ?_); simp only [isC, Bool.false_or, Bool.or_true, vAppend, elems, ↓reduceDIte, List.take_length, Nat.le_refl, List.drop_zero, vGuard, undef, Bool.not_eq_eq_eq_not, dstOk, vcOp, vcF, isPure, putS, vcCall, St.ev, St.put, lk, AVal.ofVal, initS, Nat.reduceLT, true_and, and_true, vBin, vUn, vPick, vConv, vPart, vLoad, vStore, vIdxA, vIdx, vFldA, vLen, vAlloc, vBuild, vBuildSl, partsA, fillA, decAll, AVal.flat, AVal.cell, cellsOk, setRange, ETy.enc, ETy.dec, ETy.sz, ETy.d, cond, Nat.reduceBEq, Nat.reduceAdd, Int.toNat_natCast, List.length_set, List.length_append, List.length_replicate, List.length_take, Nat.reduceSub, Nat.reduceEqDiff, get_loc, setBox_loc, next_eq, List.length_cons, List.length_nil, List.map_cons, List.map_nil, List.append_nil, List.nil_append, List.cons_append, List.set_cons_zero, List.set_cons_succ, getD_zero, getD_succ, List.getElem?_cons_succ, List.getElem?_cons_zero, List.take_succ_cons, List.take_zero, List.drop_succ_cons, List.all_cons, List.all_nil, Bool.and_true, Bool.true_and, Option.bind_some, Option.map_some, Option.map_none, decide_eq_true_eq, decide_eq_false_iff_not, ne_eq, Bool.not_eq_true, Bool.not_eq_false, Decidable.not_not, not_true_eq_false, not_false_eq_true, forall_const, false_implies, Bool.true_eq_false, Bool.false_eq_true, reduceCtorEq, decide_true, decide_false, Bool.not_true, Bool.not_false, if_true, if_false, Nat.zero_add, Nat.lt_irrefl, Value.oneCell', gt_iff_lt, Nat.reduceLeDiff, Nat.lt_add_one, vSealSl, wvar_1, wzero_1, wvar_2, wzero_2, wknd_2, wsn_2, wvar_3, wzero_3, wknd_3, wsn_3, wvar_4, wzero_4, wknd_4, wsn_4, wvar_5, wzero_5, wknd_5, wsn_5, wvar_9, wzero_9, wknd_9, wsn_9, wsl_24, wkn_24, wvar_24, wzero_24, wsl_41, wkn_41, wvar_41, wzero_41, wvar_43, wzero_43, wbld_43, wsl_81, wkn_81, wvar_81, wzero_81, wfld_43_0, hxl, hxt, wu]; try simp (disch := omega) only [wrap64]) | (with_reducible refine hK' _ ?_; clear hK' K') | (with_reducible refine hK _ ?_; clear hK K) | (with_reducible first | refine And.intro (And.intro rfl rfl) ?_ | refine And.intro (by omega) ?_) | (with_reducible refine And.intro (fun hg => ?_) (fun hg => ?_) <;> first | simp only [eq_false hg, rsB] | simp only [eq_true hg, rsB] | simp only [hg, rsB]) | (with_reducible first | refine And.intro rfl (And.intro rfl rfl) | refine thenQ_n ?_ | refine thenQ_exit ?_ | refine thenQ_ret ?_ | refine midQ_ret ?_ | refine midQ_exit ?_ | refine blockQ_same ?_ | refine blockQ_ne (by decide) ?_ | refine blockQ_ret ?_ | refine blockQ_n ?_ | refine AW.exit ?_ | refine AW.block ?_ | refine AW.cond_t rfl ?_ | refine AW.cond_f rfl ?_ | refine AW.cond_dec rfl (fun hc => ?_) (fun hc => ?_)) | (with_reducible refine AW.cond rfl (fun hc => ?_) (fun hc => ?_) <;> try simp only [Bool.not_eq_eq_eq_not, Bool.not_true, Bool.not_false, decide_eq_true_eq, decide_eq_false_iff_not] at hc) | (with_reducible first | refine AW.seq ?_ | refine AW.skip ?_ | refine AW.ret ?_ | refine And.intro ?_ ?_) | (with_reducible intro hg; first | simp only [eq_false hg, rsB] | simp only [eq_true hg, rsB]) | (with_reducible refine retQ_drop ?_; simp only [vRes, packRes, vLoad, vPart, lk, cond, Nat.reduceBEq, get_loc, getD_zero, getD_succ, true_and, List.length_cons, List.length_nil, Nat.reduceAdd, Nat.reduceLT, Nat.reduceLeDiff, List.take_succ_cons, List.take_zero, List.drop_succ_cons, List.drop_zero, wvar_1, wzero_1, wvar_2, wzero_2, wknd_2, wsn_2, wvar_3, wzero_3, wknd_3, wsn_3, wvar_4, wzero_4, wknd_4, wsn_4, wvar_5, wzero_5, wknd_5, wsn_5, wvar_9, wzero_9, wknd_9, wsn_9, wsl_24, wkn_24, wvar_24, wzero_24, wsl_41, wkn_41, wvar_41, wzero_41, wvar_43, wzero_43, wbld_43, wsl_81, wkn_81, wvar_81, wzero_81, wfld_43_0]) )
          all_goals first
            | (exfalso; omega)
            | skip
          refine ⟨j + 1, ⟨by omega, hnx hgd⟩, by omega, ?_⟩
          rw [hrs]
          exact (Weak.sel [0, 1, 2, 5] hB (by decide) (by (repeat' (first | exact trivial | exact RenB.plRow rfl | exact RenB.dead _ | exact RenB.ownKeep (by assumption) | exact RenB.ownSnoc (by assumption) rfl | exact RenB.ownAt (by assumption) (by assumption) rfl | exact RenB.own2 (by assumption) rfl rfl | exact RenB.map _ _ | exact RenB.iter rfl | refine And.intro ?_ ?_ | (refine RenB.plBox ?_; (repeat' (first | exact Pl.v _ | exact Pl.junk | exact Pl.rd rfl _ | exact pl_nil | refine pl_cons ?_ ?_ | refine Pl.agg ?_ | refine Pl.tup ?_ | refine Pl.rp ?_ | refine Pl.fn ?_)); (first | done | fail)) | refine RenB.of ?_ | exact RenV.ptr rfl | exact RenV.sl rfl | exact RenV.mp rfl | exact RenV.it rfl | exact RenV.low (IdsLt.mp (by assumption)) | (refine RenV.pl ?_; (repeat' (first | exact Pl.v _ | exact Pl.junk | exact Pl.rd rfl _ | exact pl_nil | refine pl_cons ?_ ?_ | refine Pl.agg ?_ | refine Pl.tup ?_ | refine Pl.rp ?_ | refine Pl.fn ?_)); (first | done | fail)) | refine RenV.aggL ?_ | refine RenV.fnL ?_ | exact Nat.lt_of_sub_pos (by decide) | (simp; (first | done | fail)))); (first | done | fail)) (by (repeat' (first | exact trivial | exact RenV.ptr rfl | exact RenV.sl rfl | exact RenV.mp rfl | exact RenV.it rfl | exact RenV.low (IdsLt.mp (by assumption)) | exact RenV.low (.v _) | exact RenV.low (IdsLt.ptr (by assumption)) | (refine RenV.pl ?_; (repeat' (first | exact Pl.v _ | exact Pl.junk | exact Pl.rd rfl _ | exact pl_nil | refine pl_cons ?_ ?_ | refine Pl.agg ?_ | refine Pl.tup ?_ | refine Pl.rp ?_ | refine Pl.fn ?_)); (first | done | fail)) | refine RenV.fnL ?_ | refine RenV.aggL ?_ | refine And.intro ?_ ?_)); (first | done | fail)))
        · have hbad : GoodP P P.length → ¬ MzOk (rowsP P) := fun h _ => by
            have := h 0 (by omega) c (by rw [hpd]; exact hcm)
            rcases this with e | e
            · exact hc35 e
            · omega
          repeat' (first | (with_reducible first | refine AW.sreg envOk2 fun K hK => ?_ | refine AW.region envOk2 fun K hK => ?_ | refine vcL_nil ?_) | (with_reducible (first | refine vcL_cons fun K' hK' => ?_); simp only [isC, Bool.false_or, Bool.or_true, vAppend, elems, ↓reduceDIte, List.take_length, Nat.le_refl, List.drop_zero, vGuard, undef, Bool.not_eq_eq_eq_not, dstOk, vcOp, vcF, isPure, putS, vcCall, St.ev, St.put, lk, AVal.ofVal, initS, Nat.reduceLT, true_and, and_true, vBin, vUn, vPick, vConv, vPart, vLoad, vStore, vIdxA, vIdx, vFldA, vLen, vAlloc, vBuild, vBuildSl, partsA, fillA, decAll, AVal.flat, AVal.cell, cellsOk, setRange, ETy.enc, ETy.dec, ETy.sz, ETy.d, cond, Nat.reduceBEq, Nat.reduceAdd, Int.toNat_natCast, List.length_set, List.length_append, List.length_replicate, List.length_take, Nat.reduceSub, Nat.reduceEqDiff, get_loc, setBox_loc, next_eq, List.length_cons, List.length_nil, List.map_cons, List.map_nil, List.append_nil, List.nil_append, List.cons_append, List.set_cons_zero, List.set_cons_succ, getD_zero, getD_succ, List.getElem?_cons_succ, List.getElem?_cons_zero, List.take_succ_cons, List.take_zero, List.drop_succ_cons, List.all_cons, List.all_nil, Bool.and_true, Bool.true_and, Option.bind_some, Option.map_some, Option.map_none, decide_eq_true_eq, decide_eq_false_iff_not, ne_eq, Bool.not_eq_true, Bool.not_eq_false, Decidable.not_not, not_true_eq_false, not_false_eq_true, forall_const, false_implies, Bool.true_eq_false, Bool.false_eq_true, reduceCtorEq, decide_true, decide_false, Bool.not_true, Bool.not_false, if_true, if_false, Nat.zero_add, Nat.lt_irrefl, Value.oneCell', gt_iff_lt, Nat.reduceLeDiff, Nat.lt_add_one, vSealSl, wvar_1, wzero_1, wvar_2, wzero_2, wknd_2, wsn_2, wvar_3, wzero_3, wknd_3, wsn_3, wvar_4, wzero_4, wknd_4, wsn_4, wvar_5, wzero_5, wknd_5, wsn_5, wvar_9, wzero_9, wknd_9, wsn_9, wsl_24, wkn_24, wvar_24, wzero_24, wsl_41, wkn_41, wvar_41, wzero_41, wvar_43, wzero_43, wbld_43, wsl_81, wkn_81, wvar_81, wzero_81, wfld_43_0, hxl, hxt]; try simp (disch := omega) only [wrap64]) | (with_reducible refine hK' _ ?_; clear hK' K') | (with_reducible refine hK _ ?_; clear hK K) | (with_reducible first | refine And.intro (And.intro rfl rfl) ?_ | refine And.intro (by omega) ?_) | (with_reducible refine And.intro (fun hg => ?_) (fun hg => ?_) <;> first | simp only [eq_false hg, rsB] | simp only [eq_true hg, rsB] | simp only [hg, rsB]) | (with_reducible first | refine And.intro rfl (And.intro rfl rfl) | refine thenQ_n ?_ | refine thenQ_exit ?_ | refine thenQ_ret ?_ | refine midQ_ret ?_ | refine midQ_exit ?_ | refine blockQ_same ?_ | refine blockQ_ne (by decide) ?_ | refine blockQ_ret ?_ | refine blockQ_n ?_ | refine AW.exit ?_ | refine AW.block ?_ | refine AW.cond_t rfl ?_ | refine AW.cond_f rfl ?_ | refine AW.cond_dec rfl (fun hc => ?_) (fun hc => ?_)) | (with_reducible refine AW.cond rfl (fun hc => ?_) (fun hc => ?_) <;> try simp only [Bool.not_eq_eq_eq_not, Bool.not_true, Bool.not_false, decide_eq_true_eq, decide_eq_false_iff_not] at hc) | (with_reducible first | refine AW.seq ?_ | refine AW.skip ?_ | refine AW.ret ?_ | refine And.intro ?_ ?_) | (with_reducible intro hg; first | simp only [eq_false hg, rsB] | simp only [eq_true hg, rsB]) | (with_reducible refine retQ_drop ?_; simp only [vRes, packRes, vLoad, vPart, lk, cond, Nat.reduceBEq, get_loc, getD_zero, getD_succ, true_and, List.length_cons, List.length_nil, Nat.reduceAdd, Nat.reduceLT, Nat.reduceLeDiff, List.take_succ_cons, List.take_zero, List.drop_succ_cons, List.drop_zero, wvar_1, wzero_1, wvar_2, wzero_2, wknd_2, wsn_2, wvar_3, wzero_3, wknd_3, wsn_3, wvar_4, wzero_4, wknd_4, wsn_4, wvar_5, wzero_5, wknd_5, wsn_5, wvar_9, wzero_9, wknd_9, wsn_9, wsl_24, wkn_24, wvar_24, wzero_24, wsl_41, wkn_41, wvar_41, wzero_41, wvar_43, wzero_43, wbld_43, wsl_81, wkn_81, wvar_81, wzero_81, wfld_43_0]) )
          all_goals first
            | (exfalso; omega)
            | skip
          all_goals exact ⟨_, _, FinOk.drop hB (Plain.tup (plain_cons (Plain.agg (plain_cons (.v _) plain_nil)) (plain_cons (.v _) plain_nil))).ids, .inr ⟨hr2 hbad, rfl, rfl⟩⟩
    · obtain rfl : j = p.size := by omega
      have hpt : p.data.toList.take p.size = p.data.toList := List.take_of_length_le (by rw [data_len]; omega)
      rw [hpt] at hJ hxl hxt ⊢
      repeat' (first | (with_reducible first | refine AW.sreg envOk2 fun K hK => ?_ | refine AW.region envOk2 fun K hK => ?_ | refine vcL_nil ?_) | (with_reducible (first | refine vcL_cons fun K' hK' => ?_); simp only [isC, Bool.false_or, Bool.or_true, vAppend, elems, ↓reduceDIte, List.take_length, Nat.le_refl, List.drop_zero, vGuard, undef, Bool.not_eq_eq_eq_not, dstOk, vcOp, vcF, isPure, putS, vcCall, St.ev, St.put, lk, AVal.ofVal, initS, Nat.reduceLT, true_and, and_true, vBin, vUn, vPick, vConv, vPart, vLoad, vStore, vIdxA, vIdx, vFldA, vLen, vAlloc, vBuild, vBuildSl, partsA, fillA, decAll, AVal.flat, AVal.cell, cellsOk, setRange, ETy.enc, ETy.dec, ETy.sz, ETy.d, cond, Nat.reduceBEq, Nat.reduceAdd, Int.toNat_natCast, List.length_set, List.length_append, List.length_replicate, List.length_take, Nat.reduceSub, Nat.reduceEqDiff, get_loc, setBox_loc, next_eq, List.length_cons, List.length_nil, List.map_cons, List.map_nil, List.append_nil, List.nil_append, List.cons_append, List.set_cons_zero, List.set_cons_succ, getD_zero, getD_succ, List.getElem?_cons_succ, List.getElem?_cons_zero, List.take_succ_cons, List.take_zero, List.drop_succ_cons, List.all_cons, List.all_nil, Bool.and_true, Bool.true_and, Option.bind_some, Option.map_some, Option.map_none, decide_eq_true_eq, decide_eq_false_iff_not, ne_eq, Bool.not_eq_true, Bool.not_eq_false, Decidable.not_not, not_true_eq_false, not_false_eq_true, forall_const, false_implies, Bool.true_eq_false, Bool.false_eq_true, reduceCtorEq, decide_true, decide_false, Bool.not_true, Bool.not_false, if_true, if_false, Nat.zero_add, Nat.lt_irrefl, Value.oneCell', gt_iff_lt, Nat.reduceLeDiff, Nat.lt_add_one, vSealSl, wvar_1, wzero_1, wvar_2, wzero_2, wknd_2, wsn_2, wvar_3, wzero_3, wknd_3, wsn_3, wvar_4, wzero_4, wknd_4, wsn_4, wvar_5, wzero_5, wknd_5, wsn_5, wvar_9, wzero_9, wknd_9, wsn_9, wsl_24, wkn_24, wvar_24, wzero_24, wsl_41, wkn_41, wvar_41, wzero_41, wvar_43, wzero_43, wbld_43, wsl_81, wkn_81, wvar_81, wzero_81, wfld_43_0, hxl, hxt]; try simp (disch := omega) only [wrap64]) | (with_reducible refine hK' _ ?_; clear hK' K') | (with_reducible refine hK _ ?_; clear hK K) | (with_reducible first | refine And.intro (And.intro rfl rfl) ?_ | refine And.intro (by omega) ?_) | (with_reducible refine And.intro (fun hg => ?_) (fun hg => ?_) <;> first | simp only [eq_false hg, rsB] | simp only [eq_true hg, rsB] | simp only [hg, rsB]) | (with_reducible first | refine And.intro rfl (And.intro rfl rfl) | refine thenQ_n ?_ | refine thenQ_exit ?_ | refine thenQ_ret ?_ | refine midQ_ret ?_ | refine midQ_exit ?_ | refine blockQ_same ?_ | refine blockQ_ne (by decide) ?_ | refine blockQ_ret ?_ | refine blockQ_n ?_ | refine AW.exit ?_ | refine AW.block ?_ | refine AW.cond_t rfl ?_ | refine AW.cond_f rfl ?_ | refine AW.cond_dec rfl (fun hc => ?_) (fun hc => ?_)) | (with_reducible refine AW.cond rfl (fun hc => ?_) (fun hc => ?_) <;> try simp only [Bool.not_eq_eq_eq_not, Bool.not_true, Bool.not_false, decide_eq_true_eq, decide_eq_false_iff_not] at hc) | (with_reducible first | refine AW.seq ?_ | refine AW.skip ?_ | refine AW.ret ?_ | refine And.intro ?_ ?_) | (with_reducible intro hg; first | simp only [eq_false hg, rsB] | simp only [eq_true hg, rsB]) | (with_reducible refine retQ_drop ?_; simp only [vRes, packRes, vLoad, vPart, lk, cond, Nat.reduceBEq, get_loc, getD_zero, getD_succ, true_and, List.length_cons, List.length_nil, Nat.reduceAdd, Nat.reduceLT, Nat.reduceLeDiff, List.take_succ_cons, List.take_zero, List.drop_succ_cons, List.drop_zero, wvar_1, wzero_1, wvar_2, wzero_2, wknd_2, wsn_2, wvar_3, wzero_3, wknd_3, wsn_3, wvar_4, wzero_4, wknd_4, wsn_4, wvar_5, wzero_5, wknd_5, wsn_5, wvar_9, wzero_9, wknd_9, wsn_9, wsl_24, wkn_24, wvar_24, wzero_24, wsl_41, wkn_41, wvar_41, wzero_41, wvar_43, wzero_43, wbld_43, wsl_81, wkn_81, wvar_81, wzero_81, wfld_43_0]) )
      all_goals first
        | (exfalso; omega)
        | skip
      have e1 : rowsP (P.take 1) = [rowR p.data.toList] := by
        have := rowsP_take (P := P) (i := 0) (by omega)
        rw [hpd] at this
        simpa [rowsP] using this
      refine ⟨1, ⟨by omega, fun k hk => by
        obtain rfl : k = 0 := by omega
        rw [hpd]; exact hJ⟩, by omega, ?_⟩
      rw [if_neg (by decide), e1]
      refine Weak.trans (st1 := rmG P G ([] ++ [some (G.length + 0, p.size)]) (rowR p.data.toList) 1) ?_ ?_
      · unfold rmG
        exact (Weak.sel [3, 0, 1, 2, 5] hB (by decide) (by (repeat' (first | exact trivial | exact RenB.plRow rfl | exact RenB.dead _ | exact RenB.ownKeep (by assumption) | exact RenB.ownSnoc (by assumption) rfl | exact RenB.ownAt (by assumption) (by assumption) rfl | exact RenB.own2 (by assumption) rfl rfl | exact RenB.map _ _ | exact RenB.iter rfl | refine And.intro ?_ ?_ | (refine RenB.plBox ?_; (repeat' (first | exact Pl.v _ | exact Pl.junk | exact Pl.rd rfl _ | exact pl_nil | refine pl_cons ?_ ?_ | refine Pl.agg ?_ | refine Pl.tup ?_ | refine Pl.rp ?_ | refine Pl.fn ?_)); (first | done | fail)) | refine RenB.of ?_ | exact RenV.ptr rfl | exact RenV.sl rfl | exact RenV.mp rfl | exact RenV.it rfl | exact RenV.low (IdsLt.mp (by assumption)) | (refine RenV.pl ?_; (repeat' (first | exact Pl.v _ | exact Pl.junk | exact Pl.rd rfl _ | exact pl_nil | refine pl_cons ?_ ?_ | refine Pl.agg ?_ | refine Pl.tup ?_ | refine Pl.rp ?_ | refine Pl.fn ?_)); (first | done | fail)) | refine RenV.aggL ?_ | refine RenV.fnL ?_ | exact Nat.lt_of_sub_pos (by decide) | (simp; (first | done | fail)))); (first | done | fail)) (by (repeat' (first | exact trivial | exact RenV.ptr rfl | exact RenV.sl rfl | exact RenV.mp rfl | exact RenV.it rfl | exact RenV.low (IdsLt.mp (by assumption)) | exact RenV.low (.v _) | exact RenV.low (IdsLt.ptr (by assumption)) | (refine RenV.pl ?_; (repeat' (first | exact Pl.v _ | exact Pl.junk | exact Pl.rd rfl _ | exact pl_nil | refine pl_cons ?_ ?_ | refine Pl.agg ?_ | refine Pl.tup ?_ | refine Pl.rp ?_ | refine Pl.fn ?_)); (first | done | fail)) | refine RenV.fnL ?_ | refine RenV.aggL ?_ | refine And.intro ?_ ?_)); (first | done | fail)))
      · unfold rmG rmI
        simp only [List.length_append, List.length_singleton, Nat.add_assoc, Nat.reduceAdd, Eng.rowsB, List.map_cons, List.map_nil, List.length_cons, List.length_nil, List.nil_append, refs, hxl]
        exact Weak.grow
  · rw [if_neg h0]
    unfold rmI
    obtain ⟨H, hH⟩ : ∃ H, G ++ Eng.rowsB (rowsP (P.take i)) = H := ⟨_, rfl⟩
    have hHl : H.length = G.length + i := by rw [← hH, List.length_append, rowsB_len, htl]
    have hB : BaseLt H.length H := hH ▸ hBG.rows _
    rw [hH]
    have hlt : OwnLt H.length (refs G.length (rowsP (P.take i))) := refs_lt (by omega)
    have hlr := refs_len G.length (rowsP (P.take i))
    rw [htl] at hlr
    by_cases hin : i < P.length
    · have htk : (refs G.length (rowsP (P.take i))).take i = refs G.length (rowsP (P.take i)) := List.take_of_length_le (by omega)
      repeat' (first | (with_reducible first | refine AW.sreg envOk2 fun K hK => ?_ | refine AW.region envOk2 fun K hK => ?_ | refine vcL_nil ?_) | (with_reducible (first | refine vcL_cons fun K' hK' => ?_); simp only [isC, Bool.false_or, Bool.or_true, vAppend, elems, ↓reduceDIte, List.take_length, Nat.le_refl, List.drop_zero, vGuard, undef, Bool.not_eq_eq_eq_not, dstOk, vcOp, vcF, isPure, putS, vcCall, St.ev, St.put, lk, AVal.ofVal, initS, Nat.reduceLT, true_and, and_true, vBin, vUn, vPick, vConv, vPart, vLoad, vStore, vIdxA, vIdx, vFldA, vLen, vAlloc, vBuild, vBuildSl, partsA, fillA, decAll, AVal.flat, AVal.cell, cellsOk, setRange, ETy.enc, ETy.dec, ETy.sz, ETy.d, cond, Nat.reduceBEq, Nat.reduceAdd, Int.toNat_natCast, List.length_set, List.length_append, List.length_replicate, List.length_take, Nat.reduceSub, Nat.reduceEqDiff, get_loc, setBox_loc, next_eq, List.length_cons, List.length_nil, List.map_cons, List.map_nil, List.append_nil, List.nil_append, List.cons_append, List.set_cons_zero, List.set_cons_succ, getD_zero, getD_succ, List.getElem?_cons_succ, List.getElem?_cons_zero, List.take_succ_cons, List.take_zero, List.drop_succ_cons, List.all_cons, List.all_nil, Bool.and_true, Bool.true_and, Option.bind_some, Option.map_some, Option.map_none, decide_eq_true_eq, decide_eq_false_iff_not, ne_eq, Bool.not_eq_true, Bool.not_eq_false, Decidable.not_not, not_true_eq_false, not_false_eq_true, forall_const, false_implies, Bool.true_eq_false, Bool.false_eq_true, reduceCtorEq, decide_true, decide_false, Bool.not_true, Bool.not_false, if_true, if_false, Nat.zero_add, Nat.lt_irrefl, Value.oneCell', gt_iff_lt, Nat.reduceLeDiff, Nat.lt_add_one, vSealSl, wvar_1, wzero_1, wvar_2, wzero_2, wknd_2, wsn_2, wvar_3, wzero_3, wknd_3, wsn_3, wvar_4, wzero_4, wknd_4, wsn_4, wvar_5, wzero_5, wknd_5, wsn_5, wvar_9, wzero_9, wknd_9, wsn_9, wsl_24, wkn_24, wvar_24, wzero_24, wsl_41, wkn_41, wvar_41, wzero_41, wvar_43, wzero_43, wbld_43, wsl_81, wkn_81, wvar_81, wzero_81, wfld_43_0, hpd, hlr, htk]; try simp (disch := omega) only [wrap64]) | (with_reducible refine hK' _ ?_; clear hK' K') | (with_reducible refine hK _ ?_; clear hK K) | (with_reducible first | refine And.intro (And.intro rfl rfl) ?_ | refine And.intro (by omega) ?_) | (with_reducible refine And.intro (fun hg => ?_) (fun hg => ?_) <;> first | simp only [eq_false hg, rsB] | simp only [eq_true hg, rsB] | simp only [hg, rsB]) | (with_reducible first | refine And.intro rfl (And.intro rfl rfl) | refine thenQ_n ?_ | refine thenQ_exit ?_ | refine thenQ_ret ?_ | refine midQ_ret ?_ | refine midQ_exit ?_ | refine blockQ_same ?_ | refine blockQ_ne (by decide) ?_ | refine blockQ_ret ?_ | refine blockQ_n ?_ | refine AW.exit ?_ | refine AW.block ?_ | refine AW.cond_t rfl ?_ | refine AW.cond_f rfl ?_ | refine AW.cond_dec rfl (fun hc => ?_) (fun hc => ?_)) | (with_reducible refine AW.cond rfl (fun hc => ?_) (fun hc => ?_) <;> try simp only [Bool.not_eq_eq_eq_not, Bool.not_true, Bool.not_false, decide_eq_true_eq, decide_eq_false_iff_not] at hc) | (with_reducible first | refine AW.seq ?_ | refine AW.skip ?_ | refine AW.ret ?_ | refine And.intro ?_ ?_) | (with_reducible intro hg; first | simp only [eq_false hg, rsB] | simp only [eq_true hg, rsB]) | (with_reducible refine retQ_drop ?_; simp only [vRes, packRes, vLoad, vPart, lk, cond, Nat.reduceBEq, get_loc, getD_zero, getD_succ, true_and, List.length_cons, List.length_nil, Nat.reduceAdd, Nat.reduceLT, Nat.reduceLeDiff, List.take_succ_cons, List.take_zero, List.drop_succ_cons, List.drop_zero, wvar_1, wzero_1, wvar_2, wzero_2, wknd_2, wsn_2, wvar_3, wzero_3, wknd_3, wsn_3, wvar_4, wzero_4, wknd_4, wsn_4, wvar_5, wzero_5, wknd_5, wsn_5, wvar_9, wzero_9, wknd_9, wsn_9, wsl_24, wkn_24, wvar_24, wzero_24, wsl_41, wkn_41, wvar_41, wzero_41, wvar_43, wzero_43, wbld_43, wsl_81, wkn_81, wvar_81, wzero_81, wfld_43_0]) )
      all_goals first
        | (exfalso; omega)
        | skip
      refine AW.loop (fun j : Nat => rmB P H (refs G.length (rowsP (P.take i))) i p (rowR (p.data.toList.take j)) j) (fun j => j ≤ p.size ∧ ∀ c ∈ p.data.toList.take j, GoodB c) (fun j => p.size - j) 0 ⟨Nat.zero_le _, fun c hc => by simp at hc⟩ ?_ ?_
      · unfold rmB
        rw [List.take_zero, show rowR [] = [] from rfl]
        exact (Weak.sel [0, 1, 2, 3, 4] hB (by decide) (by (repeat' (first | exact trivial | exact RenB.plRow rfl | exact RenB.dead _ | exact RenB.ownKeep (by assumption) | exact RenB.ownSnoc (by assumption) rfl | exact RenB.ownAt (by assumption) (by assumption) rfl | exact RenB.own2 (by assumption) rfl rfl | exact RenB.map _ _ | exact RenB.iter rfl | refine And.intro ?_ ?_ | (refine RenB.plBox ?_; (repeat' (first | exact Pl.v _ | exact Pl.junk | exact Pl.rd rfl _ | exact pl_nil | refine pl_cons ?_ ?_ | refine Pl.agg ?_ | refine Pl.tup ?_ | refine Pl.rp ?_ | refine Pl.fn ?_)); (first | done | fail)) | refine RenB.of ?_ | exact RenV.ptr rfl | exact RenV.sl rfl | exact RenV.mp rfl | exact RenV.it rfl | exact RenV.low (IdsLt.mp (by assumption)) | (refine RenV.pl ?_; (repeat' (first | exact Pl.v _ | exact Pl.junk | exact Pl.rd rfl _ | exact pl_nil | refine pl_cons ?_ ?_ | refine Pl.agg ?_ | refine Pl.tup ?_ | refine Pl.rp ?_ | refine Pl.fn ?_)); (first | done | fail)) | refine RenV.aggL ?_ | refine RenV.fnL ?_ | exact Nat.lt_of_sub_pos (by decide) | (simp; (first | done | fail)))); (first | done | fail)) (by (repeat' (first | exact trivial | exact RenV.ptr rfl | exact RenV.sl rfl | exact RenV.mp rfl | exact RenV.it rfl | exact RenV.low (IdsLt.mp (by assumption)) | exact RenV.low (.v _) | exact RenV.low (IdsLt.ptr (by assumption)) | (refine RenV.pl ?_; (repeat' (first | exact Pl.v _ | exact Pl.junk | exact Pl.rd rfl _ | exact pl_nil | refine pl_cons ?_ ?_ | refine Pl.agg ?_ | refine Pl.tup ?_ | refine Pl.rp ?_ | refine Pl.fn ?_)); (first | done | fail)) | refine RenV.fnL ?_ | refine RenV.aggL ?_ | refine And.intro ?_ ?_)); (first | done | fail)))
      intro j ⟨hj, hJ⟩
      unfold rmB
      have hxl : (rowR (p.data.toList.take j)).length = j := by rw [rowR_len, List.length_take, data_len]; omega
      have hxt : (rowR (p.data.toList.take j)).take j = rowR (p.data.toList.take j) := List.take_of_length_le (by omega)
      by_cases hjn : j < p.size
      · obtain ⟨c, hb1, hb2⟩ := byte_list hjn
        have hcl := c.toNat_lt
        have hcm : c ∈ p.data.toList := by
          have : c ∈ p.data.toList.take (j + 1) := by rw [hb2]; simp
          exact List.mem_of_mem_take this
        have hnx : GoodB c → ∀ d ∈ p.data.toList.take (j + 1), GoodB d := fun hg d hd => by
          rw [hb2, List.mem_append] at hd
          rcases hd with h | h
          · exact hJ d h
          · rw [List.mem_singleton.1 h]; exact hg
        have hrs : rowR (p.data.toList.take (j + 1)) = rowR (p.data.toList.take j) ++ [convB c] := by rw [hb2, rowR_snoc]
        by_cases h35 : byteAt p j = 35
        · have hc35 : c = 35 := UInt8.toNat_inj.1 (by show c.toNat = 35; omega)
          have hcv : convB c = 0 := if_pos hc35
          rw [hcv] at hrs
          have hgd : GoodB c := .inl hc35
          repeat' (first | (with_reducible first | refine AW.sreg envOk2 fun K hK => ?_ | refine AW.region envOk2 fun K hK => ?_ | refine vcL_nil ?_) | (with_reducible (first | refine vcL_cons fun K' hK' => ?_); simp only [isC, Bool.false_or, Bool.or_true, vAppend, elems, ↓reduceDIte, List.take_length, Nat.le_refl, List.drop_zero, vGuard, undef, Bool.not_eq_eq_eq_not, dstOk, vcOp, vcF, isPure, putS, vcCall, St.ev, St.put, lk, AVal.ofVal, initS, Nat.reduceLT, true_and, and_true, vBin, vUn, vPick, vConv, vPart, vLoad, vStore, vIdxA, vIdx, vFldA, vLen, vAlloc, vBuild, vBuildSl, partsA, fillA, decAll, AVal.flat, AVal.cell, cellsOk, setRange, ETy.enc, ETy.dec, ETy.sz, ETy.d, cond, Nat.reduceBEq, Nat.reduceAdd, Int.toNat_natCast, List.length_set, List.length_append, List.length_replicate, List.length_take, Nat.reduceSub, Nat.reduceEqDiff, get_loc, setBox_loc, next_eq, List.length_cons, List.length_nil, List.map_cons, List.map_nil, List.append_nil, List.nil_append, List.cons_append, List.set_cons_zero, List.set_cons_succ, getD_zero, getD_succ, List.getElem?_cons_succ, List.getElem?_cons_zero, List.take_succ_cons, List.take_zero, List.drop_succ_cons, List.all_cons, List.all_nil, Bool.and_true, Bool.true_and, Option.bind_some, Option.map_some, Option.map_none, decide_eq_true_eq, decide_eq_false_iff_not, ne_eq, Bool.not_eq_true, Bool.not_eq_false, Decidable.not_not, not_true_eq_false, not_false_eq_true, forall_const, false_implies, Bool.true_eq_false, Bool.false_eq_true, reduceCtorEq, decide_true, decide_false, Bool.not_true, Bool.not_false, if_true, if_false, Nat.zero_add, Nat.lt_irrefl, Value.oneCell', gt_iff_lt, Nat.reduceLeDiff, Nat.lt_add_one, vSealSl, wvar_1, wzero_1, wvar_2, wzero_2, wknd_2, wsn_2, wvar_3, wzero_3, wknd_3, wsn_3, wvar_4, wzero_4, wknd_4, wsn_4, wvar_5, wzero_5, wknd_5, wsn_5, wvar_9, wzero_9, wknd_9, wsn_9, wsl_24, wkn_24, wvar_24, wzero_24, wsl_41, wkn_41, wvar_41, wzero_41, wvar_43, wzero_43, wbld_43, wsl_81, wkn_81, wvar_81, wzero_81, wfld_43_0, hxl, hxt]; try simp (disch := omega) only [wrap64]) | (with_reducible refine hK' _ ?_; clear hK' K') | (with_reducible refine hK _ ?_; clear hK K) | (with_reducible first | refine And.intro (And.intro rfl rfl) ?_ | refine And.intro (by omega) ?_) | (with_reducible refine And.intro (fun hg => ?_) (fun hg => ?_) <;> first | simp only [eq_false hg, rsB] | simp only [eq_true hg, rsB] | simp only [hg, rsB]) | (with_reducible first | refine And.intro rfl (And.intro rfl rfl) | refine thenQ_n ?_ | refine thenQ_exit ?_ | refine thenQ_ret ?_ | refine midQ_ret ?_ | refine midQ_exit ?_ | refine blockQ_same ?_ | refine blockQ_ne (by decide) ?_ | refine blockQ_ret ?_ | refine blockQ_n ?_ | refine AW.exit ?_ | refine AW.block ?_ | refine AW.cond_t rfl ?_ | refine AW.cond_f rfl ?_ | refine AW.cond_dec rfl (fun hc => ?_) (fun hc => ?_)) | (with_reducible refine AW.cond rfl (fun hc => ?_) (fun hc => ?_) <;> try simp only [Bool.not_eq_eq_eq_not, Bool.not_true, Bool.not_false, decide_eq_true_eq, decide_eq_false_iff_not] at hc) | (with_reducible first | refine AW.seq ?_ | refine AW.skip ?_ | refine AW.ret ?_ | refine And.intro ?_ ?_) | (with_reducible intro hg; first | simp only [eq_false hg, rsB] | simp only [eq_true hg, rsB]) | (with_reducible refine retQ_drop ?_; simp only [vRes, packRes, vLoad, vPart, lk, cond, Nat.reduceBEq, get_loc, getD_zero, getD_succ, true_and, List.length_cons, List.length_nil, Nat.reduceAdd, Nat.reduceLT, Nat.reduceLeDiff, List.take_succ_cons, List.take_zero, List.drop_succ_cons, List.drop_zero, wvar_1, wzero_1, wvar_2, wzero_2, wknd_2, wsn_2, wvar_3, wzero_3, wknd_3, wsn_3, wvar_4, wzero_4, wknd_4, wsn_4, wvar_5, wzero_5, wknd_5, wsn_5, wvar_9, wzero_9, wknd_9, wsn_9, wsl_24, wkn_24, wvar_24, wzero_24, wsl_41, wkn_41, wvar_41, wzero_41, wvar_43, wzero_43, wbld_43, wsl_81, wkn_81, wvar_81, wzero_81, wfld_43_0]) )
          all_goals first
            | (exfalso; omega)
            | skip
          refine ⟨j + 1, ⟨by omega, hnx hgd⟩, by omega, ?_⟩
          rw [hrs]
          exact (Weak.sel [0, 1, 2, 3, 6] hB (by decide) (by (repeat' (first | exact trivial | exact RenB.plRow rfl | exact RenB.dead _ | exact RenB.ownKeep (by assumption) | exact RenB.ownSnoc (by assumption) rfl | exact RenB.ownAt (by assumption) (by assumption) rfl | exact RenB.own2 (by assumption) rfl rfl | exact RenB.map _ _ | exact RenB.iter rfl | refine And.intro ?_ ?_ | (refine RenB.plBox ?_; (repeat' (first | exact Pl.v _ | exact Pl.junk | exact Pl.rd rfl _ | exact pl_nil | refine pl_cons ?_ ?_ | refine Pl.agg ?_ | refine Pl.tup ?_ | refine Pl.rp ?_ | refine Pl.fn ?_)); (first | done | fail)) | refine RenB.of ?_ | exact RenV.ptr rfl | exact RenV.sl rfl | exact RenV.mp rfl | exact RenV.it rfl | exact RenV.low (IdsLt.mp (by assumption)) | (refine RenV.pl ?_; (repeat' (first | exact Pl.v _ | exact Pl.junk | exact Pl.rd rfl _ | exact pl_nil | refine pl_cons ?_ ?_ | refine Pl.agg ?_ | refine Pl.tup ?_ | refine Pl.rp ?_ | refine Pl.fn ?_)); (first | done | fail)) | refine RenV.aggL ?_ | refine RenV.fnL ?_ | exact Nat.lt_of_sub_pos (by decide) | (simp; (first | done | fail)))); (first | done | fail)) (by (repeat' (first | exact trivial | exact RenV.ptr rfl | exact RenV.sl rfl | exact RenV.mp rfl | exact RenV.it rfl | exact RenV.low (IdsLt.mp (by assumption)) | exact RenV.low (.v _) | exact RenV.low (IdsLt.ptr (by assumption)) | (refine RenV.pl ?_; (repeat' (first | exact Pl.v _ | exact Pl.junk | exact Pl.rd rfl _ | exact pl_nil | refine pl_cons ?_ ?_ | refine Pl.agg ?_ | refine Pl.tup ?_ | refine Pl.rp ?_ | refine Pl.fn ?_)); (first | done | fail)) | refine RenV.fnL ?_ | refine RenV.aggL ?_ | refine And.intro ?_ ?_)); (first | done | fail)))
        · have hc35 : ¬ c = 35 := fun e => h35 (by rw [hb1, e]; rfl)
          by_cases hdg : 49 ≤ byteAt p j ∧ byteAt p j ≤ 57
          · have hcv : convB c = byteAt p j - 48 := by rw [hb1]; exact if_neg hc35
            have wu : IntKind.u8.wrap (byteAt p j - 48) = byteAt p j - 48 := wrap8 (by omega)
            rw [hcv] at hrs
            have hgd : GoodB c := .inr ⟨by omega, by omega⟩
            repeat' (first | (with_reducible first | refine AW.sreg envOk2 fun K hK => ?_ | refine AW.region envOk2 fun K hK => ?_ | refine vcL_nil ?_) | (with_reducible (first | refine vcL_cons fun K' hK' => ?_); simp only [isC, Bool.false_or, Bool.or_true, vAppend, elems, ↓reduceDIte, List.take_length, Nat.le_refl, List.drop_zero, vGuard, undef, Bool.not_eq_eq_eq_not, dstOk, vcOp, vcF, isPure, putS, vcCall, St.ev, St.put, lk, AVal.ofVal, initS, Nat.reduceLT, true_and, and_true, vBin, vUn, vPick, vConv, vPart, vLoad, vStore, vIdxA, vIdx, vFldA, vLen, vAlloc, vBuild, vBuildSl, partsA, fillA, decAll, AVal.flat, AVal.cell, cellsOk, setRange, ETy.enc, ETy.dec, ETy.sz, ETy.d, cond, Nat.reduceBEq, Nat.reduceAdd, Int.toNat_natCast, List.length_set, List.length_append, List.length_replicate, List.length_take, Nat.reduceSub, Nat.reduceEqDiff, get_loc, setBox_loc, next_eq, List.length_cons, List.length_nil, List.map_cons, List.map_nil, List.append_nil, List.nil_append, List.cons_append, List.set_cons_zero, List.set_cons_succ, getD_zero, getD_succ, List.getElem?_cons_succ, List.getElem?_cons_zero, List.take_succ_cons, List.take_zero, List.drop_succ_cons, List.all_cons, List.all_nil, Bool.and_true, Bool.true_and, Option.bind_some, Option.map_some, Option.map_none, decide_eq_true_eq, decide_eq_false_iff_not, ne_eq, Bool.not_eq_true, Bool.not_eq_false, Decidable.not_not, not_true_eq_false, not_false_eq_true, forall_const, false_implies, Bool.true_eq_false, Bool.false_eq_true, reduceCtorEq, decide_true, decide_false, Bool.not_true, Bool.not_false, if_true, if_false, Nat.zero_add, Nat.lt_irrefl, Value.oneCell', gt_iff_lt, Nat.reduceLeDiff, Nat.lt_add_one, vSealSl, wvar_1, wzero_1, wvar_2, wzero_2, wknd_2, wsn_2, wvar_3, wzero_3, wknd_3, wsn_3, wvar_4, wzero_4, wknd_4, wsn_4, wvar_5, wzero_5, wknd_5, wsn_5, wvar_9, wzero_9, wknd_9, wsn_9, wsl_24, wkn_24, wvar_24, wzero_24, wsl_41, wkn_41, wvar_41, wzero_41, wvar_43, wzero_43, wbld_43, wsl_81, wkn_81, wvar_81, wzero_81, wfld_43_0, hxl, hxt, wu]; try simp (disch := omega) only [wrap64]) | (with_reducible refine hK' _ ?_; clear hK' K') | (with_reducible refine hK _ ?_; clear hK K) | (with_reducible first | refine And.intro (And.intro rfl rfl) ?_ | refine And.intro (by omega) ?_) | (with_reducible refine And.intro (fun hg => ?_) (fun hg => ?_) <;> first | simp only [eq_false hg, rsB] | simp only [eq_true hg, rsB] | simp only [hg, rsB]) | (with_reducible first | refine And.intro rfl (And.intro rfl rfl) | refine thenQ_n ?_ | refine thenQ_exit ?_ | refine thenQ_ret ?_ | refine midQ_ret ?_ | refine midQ_exit ?_ | refine blockQ_same ?_ | refine blockQ_ne (by decide) ?_ | refine blockQ_ret ?_ | refine blockQ_n ?_ | refine AW.exit ?_ | refine AW.block ?_ | refine AW.cond_t rfl ?_ | refine AW.cond_f rfl ?_ | refine AW.cond_dec rfl (fun hc => ?_) (fun hc => ?_)) | (with_reducible refine AW.cond rfl (fun hc => ?_) (fun hc => ?_) <;> try simp only [Bool.not_eq_eq_eq_not, Bool.not_true, Bool.not_false, decide_eq_true_eq, decide_eq_false_iff_not] at hc) | (with_reducible first | refine AW.seq ?_ | refine AW.skip ?_ | refine AW.ret ?_ | refine And.intro ?_ ?_) | (with_reducible intro hg; first | simp only [eq_false hg, rsB] | simp only [eq_true hg, rsB]) | (with_reducible refine retQ_drop ?_; simp only [vRes, packRes, vLoad, vPart, lk, cond, Nat.reduceBEq, get_loc, getD_zero, getD_succ, true_and, List.length_cons, List.length_nil, Nat.reduceAdd, Nat.reduceLT, Nat.reduceLeDiff, List.take_succ_cons, List.take_zero, List.drop_succ_cons, List.drop_zero, wvar_1, wzero_1, wvar_2, wzero_2, wknd_2, wsn_2, wvar_3, wzero_3, wknd_3, wsn_3, wvar_4, wzero_4, wknd_4, wsn_4, wvar_5, wzero_5, wknd_5, wsn_5, wvar_9, wzero_9, wknd_9, wsn_9, wsl_24, wkn_24, wvar_24, wzero_24, wsl_41, wkn_41, wvar_41, wzero_41, wvar_43, wzero_43, wbld_43, wsl_81, wkn_81, wvar_81, wzero_81, wfld_43_0]) )
            all_goals first
              | (exfalso; omega)
              | skip
            refine ⟨j + 1, ⟨by omega, hnx hgd⟩, by omega, ?_⟩
            rw [hrs]
            exact (Weak.sel [0, 1, 2, 3, 6] hB (by decide) (by (repeat' (first | exact trivial | exact RenB.plRow rfl | exact RenB.dead _ | exact RenB.ownKeep (by assumption) | exact RenB.ownSnoc (by assumption) rfl | exact RenB.ownAt (by assumption) (by assumption) rfl | exact RenB.own2 (by assumption) rfl rfl | exact RenB.map _ _ | exact RenB.iter rfl | refine And.intro ?_ ?_ | (refine RenB.plBox ?_; (repeat' (first | exact Pl.v _ | exact Pl.junk | exact Pl.rd rfl _ | exact pl_nil | refine pl_cons ?_ ?_ | refine Pl.agg ?_ | refine Pl.tup ?_ | refine Pl.rp ?_ | refine Pl.fn ?_)); (first | done | fail)) | refine RenB.of ?_ | exact RenV.ptr rfl | exact RenV.sl rfl | exact RenV.mp rfl | exact RenV.it rfl | exact RenV.low (IdsLt.mp (by assumption)) | (refine RenV.pl ?_; (repeat' (first | exact Pl.v _ | exact Pl.junk | exact Pl.rd rfl _ | exact pl_nil | refine pl_cons ?_ ?_ | refine Pl.agg ?_ | refine Pl.tup ?_ | refine Pl.rp ?_ | refine Pl.fn ?_)); (first | done | fail)) | refine RenV.aggL ?_ | refine RenV.fnL ?_ | exact Nat.lt_of_sub_pos (by decide) | (simp; (first | done | fail)))); (first | done | fail)) (by (repeat' (first | exact trivial | exact RenV.ptr rfl | exact RenV.sl rfl | exact RenV.mp rfl | exact RenV.it rfl | exact RenV.low (IdsLt.mp (by assumption)) | exact RenV.low (.v _) | exact RenV.low (IdsLt.ptr (by assumption)) | (refine RenV.pl ?_; (repeat' (first | exact Pl.v _ | exact Pl.junk | exact Pl.rd rfl _ | exact pl_nil | refine pl_cons ?_ ?_ | refine Pl.agg ?_ | refine Pl.tup ?_ | refine Pl.rp ?_ | refine Pl.fn ?_)); (first | done | fail)) | refine RenV.fnL ?_ | refine RenV.aggL ?_ | refine And.intro ?_ ?_)); (first | done | fail)))
          · have hbad : GoodP P P.length → ¬ MzOk (rowsP P) := fun h _ => by
              have := h i (by omega) c (by rw [hpd]; exact hcm)
              rcases this with e | e
              · exact hc35 e
              · omega
            repeat' (first | (with_reducible first | refine AW.sreg envOk2 fun K hK => ?_ | refine AW.region envOk2 fun K hK => ?_ | refine vcL_nil ?_) | (with_reducible (first | refine vcL_cons fun K' hK' => ?_); simp only [isC, Bool.false_or, Bool.or_true, vAppend, elems, ↓reduceDIte, List.take_length, Nat.le_refl, List.drop_zero, vGuard, undef, Bool.not_eq_eq_eq_not, dstOk, vcOp, vcF, isPure, putS, vcCall, St.ev, St.put, lk, AVal.ofVal, initS, Nat.reduceLT, true_and, and_true, vBin, vUn, vPick, vConv, vPart, vLoad, vStore, vIdxA, vIdx, vFldA, vLen, vAlloc, vBuild, vBuildSl, partsA, fillA, decAll, AVal.flat, AVal.cell, cellsOk, setRange, ETy.enc, ETy.dec, ETy.sz, ETy.d, cond, Nat.reduceBEq, Nat.reduceAdd, Int.toNat_natCast, List.length_set, List.length_append, List.length_replicate, List.length_take, Nat.reduceSub, Nat.reduceEqDiff, get_loc, setBox_loc, next_eq, List.length_cons, List.length_nil, List.map_cons, List.map_nil, List.append_nil, List.nil_append, List.cons_append, List.set_cons_zero, List.set_cons_succ, getD_zero, getD_succ, List.getElem?_cons_succ, List.getElem?_cons_zero, List.take_succ_cons, List.take_zero, List.drop_succ_cons, List.all_cons, List.all_nil, Bool.and_true, Bool.true_and, Option.bind_some, Option.map_some, Option.map_none, decide_eq_true_eq, decide_eq_false_iff_not, ne_eq, Bool.not_eq_true, Bool.not_eq_false, Decidable.not_not, not_true_eq_false, not_false_eq_true, forall_const, false_implies, Bool.true_eq_false, Bool.false_eq_true, reduceCtorEq, decide_true, decide_false, Bool.not_true, Bool.not_false, if_true, if_false, Nat.zero_add, Nat.lt_irrefl, Value.oneCell', gt_iff_lt, Nat.reduceLeDiff, Nat.lt_add_one, vSealSl, wvar_1, wzero_1, wvar_2, wzero_2, wknd_2, wsn_2, wvar_3, wzero_3, wknd_3, wsn_3, wvar_4, wzero_4, wknd_4, wsn_4, wvar_5, wzero_5, wknd_5, wsn_5, wvar_9, wzero_9, wknd_9, wsn_9, wsl_24, wkn_24, wvar_24, wzero_24, wsl_41, wkn_41, wvar_41, wzero_41, wvar_43, wzero_43, wbld_43, wsl_81, wkn_81, wvar_81, wzero_81, wfld_43_0, hxl, hxt]; try simp (disch := omega) only [wrap64]) | (with_reducible refine hK' _ ?_; clear hK' K') | (with_reducible refine hK _ ?_; clear hK K) | (with_reducible first | refine And.intro (And.intro rfl rfl) ?_ | refine And.intro (by omega) ?_) | (with_reducible refine And.intro (fun hg => ?_) (fun hg => ?_) <;> first | simp only [eq_false hg, rsB] | simp only [eq_true hg, rsB] | simp only [hg, rsB]) | (with_reducible first | refine And.intro rfl (And.intro rfl rfl) | refine thenQ_n ?_ | refine thenQ_exit ?_ | refine thenQ_ret ?_ | refine midQ_ret ?_ | refine midQ_exit ?_ | refine blockQ_same ?_ | refine blockQ_ne (by decide) ?_ | refine blockQ_ret ?_ | refine blockQ_n ?_ | refine AW.exit ?_ | refine AW.block ?_ | refine AW.cond_t rfl ?_ | refine AW.cond_f rfl ?_ | refine AW.cond_dec rfl (fun hc => ?_) (fun hc => ?_)) | (with_reducible refine AW.cond rfl (fun hc => ?_) (fun hc => ?_) <;> try simp only [Bool.not_eq_eq_eq_not, Bool.not_true, Bool.not_false, decide_eq_true_eq, decide_eq_false_iff_not] at hc) | (with_reducible first | refine AW.seq ?_ | refine AW.skip ?_ | refine AW.ret ?_ | refine And.intro ?_ ?_) | (with_reducible intro hg; first | simp only [eq_false hg, rsB] | simp only [eq_true hg, rsB]) | (with_reducible refine retQ_drop ?_; simp only [vRes, packRes, vLoad, vPart, lk, cond, Nat.reduceBEq, get_loc, getD_zero, getD_succ, true_and, List.length_cons, List.length_nil, Nat.reduceAdd, Nat.reduceLT, Nat.reduceLeDiff, List.take_succ_cons, List.take_zero, List.drop_succ_cons, List.drop_zero, wvar_1, wzero_1, wvar_2, wzero_2, wknd_2, wsn_2, wvar_3, wzero_3, wknd_3, wsn_3, wvar_4, wzero_4, wknd_4, wsn_4, wvar_5, wzero_5, wknd_5, wsn_5, wvar_9, wzero_9, wknd_9, wsn_9, wsl_24, wkn_24, wvar_24, wzero_24, wsl_41, wkn_41, wvar_41, wzero_41, wvar_43, wzero_43, wbld_43, wsl_81, wkn_81, wvar_81, wzero_81, wfld_43_0]) )
            all_goals first
              | (exfalso; omega)
              | skip
            all_goals subst hH
            all_goals exact ⟨_, _, FinOk.dropTo (K := Eng.rowsB (rowsP (P.take i))) hBG rfl (Plain.tup (plain_cons (Plain.agg (plain_cons (.v _) plain_nil)) (plain_cons (.v _) plain_nil))).ids, .inr ⟨hr2 hbad, rfl, rfl⟩⟩
      · obtain rfl : j = p.size := by omega
        have hpt : p.data.toList.take p.size = p.data.toList := List.take_of_length_le (by rw [data_len]; omega)
        rw [hpt] at hJ hxl hxt ⊢
        repeat' (first | (with_reducible first | refine AW.sreg envOk2 fun K hK => ?_ | refine AW.region envOk2 fun K hK => ?_ | refine vcL_nil ?_) | (with_reducible (first | refine vcL_cons fun K' hK' => ?_); simp only [isC, Bool.false_or, Bool.or_true, vAppend, elems, ↓reduceDIte, List.take_length, Nat.le_refl, List.drop_zero, vGuard, undef, Bool.not_eq_eq_eq_not, dstOk, vcOp, vcF, isPure, putS, vcCall, St.ev, St.put, lk, AVal.ofVal, initS, Nat.reduceLT, true_and, and_true, vBin, vUn, vPick, vConv, vPart, vLoad, vStore, vIdxA, vIdx, vFldA, vLen, vAlloc, vBuild, vBuildSl, partsA, fillA, decAll, AVal.flat, AVal.cell, cellsOk, setRange, ETy.enc, ETy.dec, ETy.sz, ETy.d, cond, Nat.reduceBEq, Nat.reduceAdd, Int.toNat_natCast, List.length_set, List.length_append, List.length_replicate, List.length_take, Nat.reduceSub, Nat.reduceEqDiff, get_loc, setBox_loc, next_eq, List.length_cons, List.length_nil, List.map_cons, List.map_nil, List.append_nil, List.nil_append, List.cons_append, List.set_cons_zero, List.set_cons_succ, getD_zero, getD_succ, List.getElem?_cons_succ, List.getElem?_cons_zero, List.take_succ_cons, List.take_zero, List.drop_succ_cons, List.all_cons, List.all_nil, Bool.and_true, Bool.true_and, Option.bind_some, Option.map_some, Option.map_none, decide_eq_true_eq, decide_eq_false_iff_not, ne_eq, Bool.not_eq_true, Bool.not_eq_false, Decidable.not_not, not_true_eq_false, not_false_eq_true, forall_const, false_implies, Bool.true_eq_false, Bool.false_eq_true, reduceCtorEq, decide_true, decide_false, Bool.not_true, Bool.not_false, if_true, if_false, Nat.zero_add, Nat.lt_irrefl, Value.oneCell', gt_iff_lt, Nat.reduceLeDiff, Nat.lt_add_one, vSealSl, wvar_1, wzero_1, wvar_2, wzero_2, wknd_2, wsn_2, wvar_3, wzero_3, wknd_3, wsn_3, wvar_4, wzero_4, wknd_4, wsn_4, wvar_5, wzero_5, wknd_5, wsn_5, wvar_9, wzero_9, wknd_9, wsn_9, wsl_24, wkn_24, wvar_24, wzero_24, wsl_41, wkn_41, wvar_41, wzero_41, wvar_43, wzero_43, wbld_43, wsl_81, wkn_81, wvar_81, wzero_81, wfld_43_0, hxl, hxt, hlr, htk]; try simp (disch := omega) only [wrap64]) | (with_reducible refine hK' _ ?_; clear hK' K') | (with_reducible refine hK _ ?_; clear hK K) | (with_reducible first | refine And.intro (And.intro rfl rfl) ?_ | refine And.intro (by omega) ?_) | (with_reducible refine And.intro (fun hg => ?_) (fun hg => ?_) <;> first | simp only [eq_false hg, rsB] | simp only [eq_true hg, rsB] | simp only [hg, rsB]) | (with_reducible first | refine And.intro rfl (And.intro rfl rfl) | refine thenQ_n ?_ | refine thenQ_exit ?_ | refine thenQ_ret ?_ | refine midQ_ret ?_ | refine midQ_exit ?_ | refine blockQ_same ?_ | refine blockQ_ne (by decide) ?_ | refine blockQ_ret ?_ | refine blockQ_n ?_ | refine AW.exit ?_ | refine AW.block ?_ | refine AW.cond_t rfl ?_ | refine AW.cond_f rfl ?_ | refine AW.cond_dec rfl (fun hc => ?_) (fun hc => ?_)) | (with_reducible refine AW.cond rfl (fun hc => ?_) (fun hc => ?_) <;> try simp only [Bool.not_eq_eq_eq_not, Bool.not_true, Bool.not_false, decide_eq_true_eq, decide_eq_false_iff_not] at hc) | (with_reducible first | refine AW.seq ?_ | refine AW.skip ?_ | refine AW.ret ?_ | refine And.intro ?_ ?_) | (with_reducible intro hg; first | simp only [eq_false hg, rsB] | simp only [eq_true hg, rsB]) | (with_reducible refine retQ_drop ?_; simp only [vRes, packRes, vLoad, vPart, lk, cond, Nat.reduceBEq, get_loc, getD_zero, getD_succ, true_and, List.length_cons, List.length_nil, Nat.reduceAdd, Nat.reduceLT, Nat.reduceLeDiff, List.take_succ_cons, List.take_zero, List.drop_succ_cons, List.drop_zero, wvar_1, wzero_1, wvar_2, wzero_2, wknd_2, wsn_2, wvar_3, wzero_3, wknd_3, wsn_3, wvar_4, wzero_4, wknd_4, wsn_4, wvar_5, wzero_5, wknd_5, wsn_5, wvar_9, wzero_9, wknd_9, wsn_9, wsl_24, wkn_24, wvar_24, wzero_24, wsl_41, wkn_41, wvar_41, wzero_41, wvar_43, wzero_43, wbld_43, wsl_81, wkn_81, wvar_81, wzero_81, wfld_43_0]) )
        all_goals first
          | (exfalso; omega)
          | skip
        have hpe := rowsP_take (P := P) (i := i) (by omega)
        rw [hpd] at hpe
        refine ⟨i + 1, ⟨by omega, fun k hk => by
          by_cases e : k = i
          · subst e; rw [hpd]; exact hJ
          · exact hI k (by omega)⟩, by omega, ?_⟩
        rw [if_neg (by omega), hpe, rowsB_snoc, ← List.append_assoc, hH, refs_snoc, htl, ← hHl, hxl]
        refine Weak.trans (st1 := rmG P H (refs G.length (rowsP (P.take i)) ++ [some (H.length + 0, p.size)]) (rowR p.data.toList) (i + 1)) ?_ ?_
        · unfold rmG
          exact (Weak.sel [4, 0, 1, 2, 6] hB (by decide) (by (repeat' (first | exact trivial | exact RenB.plRow rfl | exact RenB.dead _ | exact RenB.ownKeep (by assumption) | exact RenB.ownSnoc (by assumption) rfl | exact RenB.ownAt (by assumption) (by assumption) rfl | exact RenB.own2 (by assumption) rfl rfl | exact RenB.map _ _ | exact RenB.iter rfl | refine And.intro ?_ ?_ | (refine RenB.plBox ?_; (repeat' (first | exact Pl.v _ | exact Pl.junk | exact Pl.rd rfl _ | exact pl_nil | refine pl_cons ?_ ?_ | refine Pl.agg ?_ | refine Pl.tup ?_ | refine Pl.rp ?_ | refine Pl.fn ?_)); (first | done | fail)) | refine RenB.of ?_ | exact RenV.ptr rfl | exact RenV.sl rfl | exact RenV.mp rfl | exact RenV.it rfl | exact RenV.low (IdsLt.mp (by assumption)) | (refine RenV.pl ?_; (repeat' (first | exact Pl.v _ | exact Pl.junk | exact Pl.rd rfl _ | exact pl_nil | refine pl_cons ?_ ?_ | refine Pl.agg ?_ | refine Pl.tup ?_ | refine Pl.rp ?_ | refine Pl.fn ?_)); (first | done | fail)) | refine RenV.aggL ?_ | refine RenV.fnL ?_ | exact Nat.lt_of_sub_pos (by decide) | (simp; (first | done | fail)))); (first | done | fail)) (by (repeat' (first | exact trivial | exact RenV.ptr rfl | exact RenV.sl rfl | exact RenV.mp rfl | exact RenV.it rfl | exact RenV.low (IdsLt.mp (by assumption)) | exact RenV.low (.v _) | exact RenV.low (IdsLt.ptr (by assumption)) | (refine RenV.pl ?_; (repeat' (first | exact Pl.v _ | exact Pl.junk | exact Pl.rd rfl _ | exact pl_nil | refine pl_cons ?_ ?_ | refine Pl.agg ?_ | refine Pl.tup ?_ | refine Pl.rp ?_ | refine Pl.fn ?_)); (first | done | fail)) | refine RenV.fnL ?_ | refine RenV.aggL ?_ | refine And.intro ?_ ?_)); (first | done | fail)))
        · unfold rmG
          simp only [List.length_append, List.length_singleton, Nat.add_assoc, Nat.reduceAdd]
          exact Weak.grow
    · obtain rfl : i = P.length := by omega
      rw [List.take_length] at hlt hlr htl hH ⊢
      have hft : Fits 2000000 (rowsP P) := ⟨by omega, fun k => by
        by_cases hk : k < P.length
        · have := hps k
          rw [rowsP_get hk, rowR_len, data_len]; omega
        · rw [getD_none (by rw [rowsP_len]; omega)]; simp⟩
      have hle := lent_rm (xs := rowsP P) (a := .box false [.v (.slice none 0 0)]) (b := .box false [.sl 1 (H.length + 3) 0 P.length]) (c := .row false .str P) hH rfl
      rw [rowsP_len] at hle
      by_cases hok : MzOk (rowsP P)
      · have hd : decide (MzOk (rowsP P)) = true := decide_eq_true hok
        repeat' (first | (with_reducible first | refine AW.sreg envOk2 fun K hK => ?_ | refine AW.region envOk2 fun K hK => ?_ | refine vcL_nil ?_) | (with_reducible (first | refine vcL_cons fun K' hK' => ?_); simp only [isC, Bool.false_or, Bool.or_true, vAppend, elems, ↓reduceDIte, List.take_length, Nat.le_refl, List.drop_zero, vGuard, undef, Bool.not_eq_eq_eq_not, dstOk, vcOp, vcF, isPure, putS, vcCall, St.ev, St.put, lk, AVal.ofVal, initS, Nat.reduceLT, true_and, and_true, vBin, vUn, vPick, vConv, vPart, vLoad, vStore, vIdxA, vIdx, vFldA, vLen, vAlloc, vBuild, vBuildSl, partsA, fillA, decAll, AVal.flat, AVal.cell, cellsOk, setRange, ETy.enc, ETy.dec, ETy.sz, ETy.d, cond, Nat.reduceBEq, Nat.reduceAdd, Int.toNat_natCast, List.length_set, List.length_append, List.length_replicate, List.length_take, Nat.reduceSub, Nat.reduceEqDiff, get_loc, setBox_loc, next_eq, List.length_cons, List.length_nil, List.map_cons, List.map_nil, List.append_nil, List.nil_append, List.cons_append, List.set_cons_zero, List.set_cons_succ, getD_zero, getD_succ, List.getElem?_cons_succ, List.getElem?_cons_zero, List.take_succ_cons, List.take_zero, List.drop_succ_cons, List.all_cons, List.all_nil, Bool.and_true, Bool.true_and, Option.bind_some, Option.map_some, Option.map_none, decide_eq_true_eq, decide_eq_false_iff_not, ne_eq, Bool.not_eq_true, Bool.not_eq_false, Decidable.not_not, not_true_eq_false, not_false_eq_true, forall_const, false_implies, Bool.true_eq_false, Bool.false_eq_true, reduceCtorEq, decide_true, decide_false, Bool.not_true, Bool.not_false, if_true, if_false, Nat.zero_add, Nat.lt_irrefl, Value.oneCell', gt_iff_lt, Nat.reduceLeDiff, Nat.lt_add_one, vSealSl, wvar_1, wzero_1, wvar_2, wzero_2, wknd_2, wsn_2, wvar_3, wzero_3, wknd_3, wsn_3, wvar_4, wzero_4, wknd_4, wsn_4, wvar_5, wzero_5, wknd_5, wsn_5, wvar_9, wzero_9, wknd_9, wsn_9, wsl_24, wkn_24, wvar_24, wzero_24, wsl_41, wkn_41, wvar_41, wzero_41, wvar_43, wzero_43, wbld_43, wsl_81, wkn_81, wvar_81, wzero_81, wfld_43_0, hd]; try simp (disch := omega) only [wrap64]) | (with_reducible refine hK' _ ?_; clear hK' K') | (with_reducible refine hK _ ?_; clear hK K) | ((with_reducible show vCall _ (AVal.fn 44 _) _ _ _); refine vCall_pure (AC.lent0 (args' := [.agg [.rd (.sli .i64) (rowsP P)]]) ⟨LentV.aggL ⟨hle, trivial⟩, trivial⟩ (by (repeat' (first | exact NoRd.v _ | exact NoRd.sl | exact NoRd.mp | exact NoRd.tup nord_nil | refine NoRd.tup ?_ | refine NoRd.agg ?_ | exact nord_nil | refine nord_cons ?_ ?_)); (first | done | fail)) (is76w_ac _ hft _)) ?_) | (with_reducible first | refine And.intro (And.intro rfl rfl) ?_ | refine And.intro (by omega) ?_) | (with_reducible refine And.intro (fun hg => ?_) (fun hg => ?_) <;> first | simp only [eq_false hg, rsB] | simp only [eq_true hg, rsB] | simp only [hg, rsB]) | (with_reducible first | refine And.intro rfl (And.intro rfl rfl) | refine thenQ_n ?_ | refine thenQ_exit ?_ | refine thenQ_ret ?_ | refine midQ_ret ?_ | refine midQ_exit ?_ | refine blockQ_same ?_ | refine blockQ_ne (by decide) ?_ | refine blockQ_ret ?_ | refine blockQ_n ?_ | refine AW.exit ?_ | refine AW.block ?_ | refine AW.cond_t rfl ?_ | refine AW.cond_f rfl ?_ | refine AW.cond_dec rfl (fun hc => ?_) (fun hc => ?_)) | (with_reducible refine AW.cond rfl (fun hc => ?_) (fun hc => ?_) <;> try simp only [Bool.not_eq_eq_eq_not, Bool.not_true, Bool.not_false, decide_eq_true_eq, decide_eq_false_iff_not] at hc) | (with_reducible first | refine AW.seq ?_ | refine AW.skip ?_ | refine AW.ret ?_ | refine And.intro ?_ ?_) | (with_reducible intro hg; first | simp only [eq_false hg, rsB] | simp only [eq_true hg, rsB]) | (with_reducible refine retQ_drop ?_; simp only [vRes, packRes, vLoad, vPart, lk, cond, Nat.reduceBEq, get_loc, getD_zero, getD_succ, true_and, List.length_cons, List.length_nil, Nat.reduceAdd, Nat.reduceLT, Nat.reduceLeDiff, List.take_succ_cons, List.take_zero, List.drop_succ_cons, List.drop_zero, wvar_1, wzero_1, wvar_2, wzero_2, wknd_2, wsn_2, wvar_3, wzero_3, wknd_3, wsn_3, wvar_4, wzero_4, wknd_4, wsn_4, wvar_5, wzero_5, wknd_5, wsn_5, wvar_9, wzero_9, wknd_9, wsn_9, wsl_24, wkn_24, wvar_24, wzero_24, wsl_41, wkn_41, wvar_41, wzero_41, wvar_43, wzero_43, wbld_43, wsl_81, wkn_81, wvar_81, wzero_81, wfld_43_0]) )
        all_goals first
          | (exfalso; omega)
          | skip
        refine ⟨_, _, FinOk.keep (m := H.length) [3] (L := [.row false (.own .i64) (refs G.length (rowsP P))]) hB (by decide) (by (repeat' (first | exact trivial | exact RenB.plRow rfl | exact RenB.dead _ | exact RenB.ownKeep (by assumption) | exact RenB.ownSnoc (by assumption) rfl | exact RenB.ownAt (by assumption) (by assumption) rfl | exact RenB.own2 (by assumption) rfl rfl | exact RenB.map _ _ | exact RenB.iter rfl | refine And.intro ?_ ?_ | (refine RenB.plBox ?_; (repeat' (first | exact Pl.v _ | exact Pl.junk | exact Pl.rd rfl _ | exact pl_nil | refine pl_cons ?_ ?_ | refine Pl.agg ?_ | refine Pl.tup ?_ | refine Pl.rp ?_ | refine Pl.fn ?_)); (first | done | fail)) | refine RenB.of ?_ | exact RenV.ptr rfl | exact RenV.sl rfl | exact RenV.mp rfl | exact RenV.it rfl | exact RenV.low (IdsLt.mp (by assumption)) | (refine RenV.pl ?_; (repeat' (first | exact Pl.v _ | exact Pl.junk | exact Pl.rd rfl _ | exact pl_nil | refine pl_cons ?_ ?_ | refine Pl.agg ?_ | refine Pl.tup ?_ | refine Pl.rp ?_ | refine Pl.fn ?_)); (first | done | fail)) | refine RenV.aggL ?_ | refine RenV.fnL ?_ | exact Nat.lt_of_sub_pos (by decide) | (simp; (first | done | fail)))); (first | done | fail)) (RenV.tupL (cs' := [.agg [.sl 1 (H.length + 0) 0 P.length], .v (.bool true)]) ⟨RenV.aggL ⟨RenV.sl (j := 0) rfl, trivial⟩, RenV.low (.v _), trivial⟩) rfl, .inl ⟨_, hr1 hI hok, ?_, ?_⟩⟩
        · rw [Nat.add_zero, rowsP_len, hHl]
        · rw [← hH, List.append_assoc]
      · have hd : decide (MzOk (rowsP P)) = false := decide_eq_false hok
        repeat' (first | (with_reducible first | refine AW.sreg envOk2 fun K hK => ?_ | refine AW.region envOk2 fun K hK => ?_ | refine vcL_nil ?_) | (with_reducible (first | refine vcL_cons fun K' hK' => ?_); simp only [isC, Bool.false_or, Bool.or_true, vAppend, elems, ↓reduceDIte, List.take_length, Nat.le_refl, List.drop_zero, vGuard, undef, Bool.not_eq_eq_eq_not, dstOk, vcOp, vcF, isPure, putS, vcCall, St.ev, St.put, lk, AVal.ofVal, initS, Nat.reduceLT, true_and, and_true, vBin, vUn, vPick, vConv, vPart, vLoad, vStore, vIdxA, vIdx, vFldA, vLen, vAlloc, vBuild, vBuildSl, partsA, fillA, decAll, AVal.flat, AVal.cell, cellsOk, setRange, ETy.enc, ETy.dec, ETy.sz, ETy.d, cond, Nat.reduceBEq, Nat.reduceAdd, Int.toNat_natCast, List.length_set, List.length_append, List.length_replicate, List.length_take, Nat.reduceSub, Nat.reduceEqDiff, get_loc, setBox_loc, next_eq, List.length_cons, List.length_nil, List.map_cons, List.map_nil, List.append_nil, List.nil_append, List.cons_append, List.set_cons_zero, List.set_cons_succ, getD_zero, getD_succ, List.getElem?_cons_succ, List.getElem?_cons_zero, List.take_succ_cons, List.take_zero, List.drop_succ_cons, List.all_cons, List.all_nil, Bool.and_true, Bool.true_and, Option.bind_some, Option.map_some, Option.map_none, decide_eq_true_eq, decide_eq_false_iff_not, ne_eq, Bool.not_eq_true, Bool.not_eq_false, Decidable.not_not, not_true_eq_false, not_false_eq_true, forall_const, false_implies, Bool.true_eq_false, Bool.false_eq_true, reduceCtorEq, decide_true, decide_false, Bool.not_true, Bool.not_false, if_true, if_false, Nat.zero_add, Nat.lt_irrefl, Value.oneCell', gt_iff_lt, Nat.reduceLeDiff, Nat.lt_add_one, vSealSl, wvar_1, wzero_1, wvar_2, wzero_2, wknd_2, wsn_2, wvar_3, wzero_3, wknd_3, wsn_3, wvar_4, wzero_4, wknd_4, wsn_4, wvar_5, wzero_5, wknd_5, wsn_5, wvar_9, wzero_9, wknd_9, wsn_9, wsl_24, wkn_24, wvar_24, wzero_24, wsl_41, wkn_41, wvar_41, wzero_41, wvar_43, wzero_43, wbld_43, wsl_81, wkn_81, wvar_81, wzero_81, wfld_43_0, hd]; try simp (disch := omega) only [wrap64]) | (with_reducible refine hK' _ ?_; clear hK' K') | (with_reducible refine hK _ ?_; clear hK K) | ((with_reducible show vCall _ (AVal.fn 44 _) _ _ _); refine vCall_pure (AC.lent0 (args' := [.agg [.rd (.sli .i64) (rowsP P)]]) ⟨LentV.aggL ⟨hle, trivial⟩, trivial⟩ (by (repeat' (first | exact NoRd.v _ | exact NoRd.sl | exact NoRd.mp | exact NoRd.tup nord_nil | refine NoRd.tup ?_ | refine NoRd.agg ?_ | exact nord_nil | refine nord_cons ?_ ?_)); (first | done | fail)) (is76w_ac _ hft _)) ?_) | (with_reducible first | refine And.intro (And.intro rfl rfl) ?_ | refine And.intro (by omega) ?_) | (with_reducible refine And.intro (fun hg => ?_) (fun hg => ?_) <;> first | simp only [eq_false hg, rsB] | simp only [eq_true hg, rsB] | simp only [hg, rsB]) | (with_reducible first | refine And.intro rfl (And.intro rfl rfl) | refine thenQ_n ?_ | refine thenQ_exit ?_ | refine thenQ_ret ?_ | refine midQ_ret ?_ | refine midQ_exit ?_ | refine blockQ_same ?_ | refine blockQ_ne (by decide) ?_ | refine blockQ_ret ?_ | refine blockQ_n ?_ | refine AW.exit ?_ | refine AW.block ?_ | refine AW.cond_t rfl ?_ | refine AW.cond_f rfl ?_ | refine AW.cond_dec rfl (fun hc => ?_) (fun hc => ?_)) | (with_reducible refine AW.cond rfl (fun hc => ?_) (fun hc => ?_) <;> try simp only [Bool.not_eq_eq_eq_not, Bool.not_true, Bool.not_false, decide_eq_true_eq, decide_eq_false_iff_not] at hc) | (with_reducible first | refine AW.seq ?_ | refine AW.skip ?_ | refine AW.ret ?_ | refine And.intro ?_ ?_) | (with_reducible intro hg; first | simp only [eq_false hg, rsB] | simp only [eq_true hg, rsB]) | (with_reducible refine retQ_drop ?_; simp only [vRes, packRes, vLoad, vPart, lk, cond, Nat.reduceBEq, get_loc, getD_zero, getD_succ, true_and, List.length_cons, List.length_nil, Nat.reduceAdd, Nat.reduceLT, Nat.reduceLeDiff, List.take_succ_cons, List.take_zero, List.drop_succ_cons, List.drop_zero, wvar_1, wzero_1, wvar_2, wzero_2, wknd_2, wsn_2, wvar_3, wzero_3, wknd_3, wsn_3, wvar_4, wzero_4, wknd_4, wsn_4, wvar_5, wzero_5, wknd_5, wsn_5, wvar_9, wzero_9, wknd_9, wsn_9, wsl_24, wkn_24, wvar_24, wzero_24, wsl_41, wkn_41, wvar_41, wzero_41, wvar_43, wzero_43, wbld_43, wsl_81, wkn_81, wvar_81, wzero_81, wfld_43_0]) )
        all_goals first
          | (exfalso; omega)
          | skip
        subst hH
        exact ⟨_, _, FinOk.dropTo (K := Eng.rowsB (rowsP P)) hBG rfl (Plain.tup (plain_cons (Plain.agg (plain_cons (.v _) plain_nil)) (plain_cons (.v _) plain_nil))).ids, .inr ⟨hr2 (fun _ => hok), rfl, rfl⟩⟩
end Go.Proofs.YtmkcahfhnehanaaDoor
end
section
set_option linter.unusedSimpArgs false
set_option linter.unusedVariables false
namespace Go.Proofs.YtmkcahfhnehanaaDoor
open Go.Lib Go.Eng
theorem pts_join {x : UInt8} : ∀ {A : List (List UInt8)}, A ≠ [] → (∀ p ∈ A, Free x p) → pts x (join A [x]) = A
  | [], h, _ => absurd rfl h
  | [a], _, hf => by
    rw [show join [a] [x] = a from join_one _ _]
    exact pts_free (hf a (by simp))
  | a :: b :: A, _, hf => by
    have ih := pts_join (x := x) (A := b :: A) (by simp) (fun p hp => hf p (List.mem_cons_of_mem _ hp))
    have e : join (a :: b :: A) [x] = a ++ x :: join (b :: A) [x] := by
      rw [join_cons, join_cons]
      simp [joinTail]
    rw [e, pts_at (hf a (by simp)), ih]
theorem conv_cell {n : Int} (h0 : 0 ≤ n) (h9 : n ≤ 9) : convB (cellB n) = n ∧ cellB n ≠ 47 ∧ GoodB (cellB n) := by
  obtain ⟨k, rfl⟩ : ∃ k : Nat, n = (k : Int) := ⟨n.toNat, by omega⟩
  have hk : k ≤ 9 := by omega
  have key : ∀ k : Nat, k < 10 → convB (cellB (k : Int)) = (k : Int) ∧ cellB (k : Int) ≠ 47 ∧ GoodB (cellB (k : Int)) := by decide
  exact key k (by omega)
theorem mzok_cell {m : Mz} (h : MzOk m) : ∀ r ∈ m, ∀ n ∈ r, 0 ≤ n ∧ n ≤ 9 := fun r hr n hn => by
  obtain ⟨i, hi, rfl⟩ := List.mem_iff_getElem.1 hr
  obtain ⟨j, hj, rfl⟩ := List.mem_iff_getElem.1 hn
  have := (h.2.2 i hi).2 j (by simpa [List.getD, hi] using hj)
  simpa [List.getD, hi, hj] using this
/-- What is read of a maze's text is the maze. -/
theorem read_back {m : Mz} (h : MzOk m) : rdm ⟨(mzB m).toArray⟩ = some m := by
  have hc := mzok_cell h
  have hd : (⟨(mzB m).toArray⟩ : ByteArray).data.toList = join (m.map fun r => r.map cellB) [47] := by rw [← mzB_eq]
  have hp : pts 47 (⟨(mzB m).toArray⟩ : ByteArray).data.toList = m.map fun r => r.map cellB := by
    rw [hd]
    refine pts_join ?_ ?_
    · have := h.1.1
      intro e
      have e2 := List.map_eq_nil_iff.1 e
      rw [e2] at this
      simp at this
    · intro p hp c hcp
      obtain ⟨r, hr, rfl⟩ := List.mem_map.1 hp
      obtain ⟨n, hn, rfl⟩ := List.mem_map.1 hcp
      have := hc r hr n hn
      exact (conv_cell this.1 this.2).2.1
  have hm : mzR ⟨(mzB m).toArray⟩ = m := by
    unfold mzR rowsR
    rw [hp, List.map_map]
    conv => rhs; rw [← List.map_id m]
    refine List.map_congr_left fun r hr => ?_
    show rowR (r.map cellB) = r
    unfold rowR
    rw [List.map_map]
    conv => rhs; rw [← List.map_id r]
    exact List.map_congr_left fun n hn => (conv_cell (hc r hr n hn).1 (hc r hr n hn).2).1
  have hg : GoodS ⟨(mzB m).toArray⟩ := by
    intro p hpp c hcp
    rw [hp] at hpp
    obtain ⟨r, hr, rfl⟩ := List.mem_map.1 hpp
    obtain ⟨n, hn, rfl⟩ := List.mem_map.1 hcp
    exact (conv_cell (hc r hr n hn).1 (hc r hr n hn).2).2.2
  unfold rdm
  rw [if_pos ⟨hg, by rw [hm]; exact h⟩, hm]
end Go.Proofs.YtmkcahfhnehanaaDoor
end
section
set_option linter.unusedSimpArgs false
set_option linter.unusedVariables false
set_option maxHeartbeats 4000000
namespace Go.Proofs.YtmkcahfhnehanaaDoor
open Go.Lib Go.Eng
theorem RmPost.some_ {o : Option Mz} {m : Mz} (h : o = some m) {H : List ABox} {r : AVal} {H' : List ABox} : RmPost o H r H' → (r = .tup [.agg [.sl 1 (H.length + m.length) 0 m.length], .v (.bool (true))] ∧ H' = H ++ (Eng.rowsB m ++ [.row false (.own .i64) (refs H.length m)])) := by
  rintro (⟨x, h1, h2, h3⟩ | ⟨h1, h2, h3⟩)
  · rw [h1] at h; cases h; exact ⟨h2, h3⟩
  · rw [h1] at h; cases h
theorem read23s_ac (s : ByteArray) (hs : s.size ≤ 1048576) {m : Mz} (h : rdm s = some m) {H : List ABox} (hm : HasMax H) : AC Tryd.prog 23 [.v (.string (s))] H (fun r H' => r = .tup [.agg [.rd (.sli .i64) m], .v (.bool (true))] ∧ H' = H) := by
  have hr := (read40_ac s hs hm).mono fun _ _ => RmPost.some_ h
  refine AC.sealT (new := Eng.rowsB m ++ [.row false (.own .i64) (refs H.length m)]) (cs := [.agg [.sl 1 (H.length + m.length) 0 m.length], .v (.bool (true))]) (cs' := [.agg [.rd (.sli .i64) m], .v (.bool (true))]) ⟨LentV.aggL ⟨?_, trivial⟩, .same _, trivial⟩ ?_ hr
  · have := lent_pNew (H := killAll H) (pre := []) (post := []) (P := m) (m := m.length) (k := H.length + m.length) (g := H.length) rfl (by rw [killAll_length]; simp) (by rw [killAll_length]; rfl)
    simpa using this
  · exact Pl.ids (by (repeat' (first | exact Pl.v _ | exact Pl.junk | exact Pl.rd rfl _ | exact pl_nil | refine pl_cons ?_ ?_ | refine Pl.agg ?_ | refine Pl.tup ?_ | refine Pl.rp ?_ | refine Pl.fn ?_)); (first | done | fail))
theorem reached18s_ac (m : Mz) (f : Pt) (hf : Fits 1048576 m) (hm : MzOk m) (ho : OpenAt m f) (H : List ABox) : AC Tryd.prog 18 [.agg [.rd (.sli .i64) (m)], .agg [.v (.int .i64 (f).1), .v (.int .i64 (f).2)]] H (fun r H' => r = .tup [.rd .pt (rcs m f), .v (.bool (true))] ∧ H' = H) := by
  refine AC.sealT (new := [.row false .pt (rcs m f)]) (cs := [.sl 2 H.length 0 (rcs m f).length, .v (.bool (true))]) (cs' := [.rd .pt (rcs m f), .v (.bool (true))]) ⟨?_, .same _, trivial⟩ (Pl.ids (by (repeat' (first | exact Pl.v _ | exact Pl.junk | exact Pl.rd rfl _ | exact pl_nil | refine pl_cons ?_ ?_ | refine Pl.agg ?_ | refine Pl.tup ?_ | refine Pl.rp ?_ | refine Pl.fn ?_)); (first | done | fail))) (impl11v_ac m f hf hm ho H)
  rw [← killAll_length H]
  exact LentV.rowL (j := 0) rfl rfl rfl
theorem wall19s_ac (m : Mz) (f : Pt) (hf : Fits 1048576 m) (hm : MzOk m) (ho : OpenAt m f) (H : List ABox) : AC Tryd.prog 19 [.agg [.rd (.sli .i64) (m)], .agg [.v (.int .i64 (f).1), .v (.int .i64 (f).2)]] H (fun r H' => r = .tup [.rd .pt (wls m f), .v (.bool (true))] ∧ H' = H) := by
  refine AC.sealT (new := [.row false .pt (wls m f)]) (cs := [.sl 2 H.length 0 (wls m f).length, .v (.bool (true))]) (cs' := [.rd .pt (wls m f), .v (.bool (true))]) ⟨?_, .same _, trivial⟩ (Pl.ids (by (repeat' (first | exact Pl.v _ | exact Pl.junk | exact Pl.rd rfl _ | exact pl_nil | refine pl_cons ?_ ?_ | refine Pl.agg ?_ | refine Pl.tup ?_ | refine Pl.rp ?_ | refine Pl.fn ?_)); (first | done | fail))) (impl18w_ac m f hf hm ho H)
  rw [← killAll_length H]
  exact LentV.rowL (j := 0) rfl rfl rfl
theorem has20_ac (L : List Pt) (p : Pt) (hl : L.length ≤ 1000000) (H : List ABox) : AC Tryd.prog 20 [.rd .pt (L), .agg [.v (.int .i64 (p).1), .v (.int .i64 (p).2)]] H (fun r H' => r = .v (.bool (decide (p ∈ L))) ∧ H' = H) := by
  refine AC.enter envOk Tryd.func20 rfl (by decide) Tryd.ntmps20 Tryd.results20 (by simp) fun hB => ?_
  repeat' (first | (with_reducible first | refine AW.sreg envOk fun K hK => ?_ | refine AW.region envOk fun K hK => ?_) | (with_reducible refine AW.d0reg envOk mixed ?_ ?_ fun K hK => ?_; (first | rfl | exact base_len | exact base_len0); kernel_rfl) | (with_reducible refine AW.d0 envOk mixed ?_ ?_ fun K hK => ?_; (first | rfl | exact base_len | exact base_len0); kernel_rfl) | (with_reducible first | refine vcD_nil ?_ | refine vcL_nil ?_) | (with_reducible (first | refine vcD_cons fun K' hK' => ?_ | refine vcL_cons fun K' hK' => ?_); simp only [isC, Bool.false_or, Bool.or_true, ↓reduceDIte, List.take_length, Nat.le_refl, List.drop_zero, vGuard, undef, Bool.not_eq_eq_eq_not, dstOk, vcOp, vcF, isPure, putS, vcCall, St.ev, St.put, lk, AVal.ofVal, initS, Nat.reduceLT, true_and, and_true, vBin, vPart, vLoad, vIdxA, vLen, vBox, partsA, fillA, decAll, AVal.flat, AVal.cell, cellsOk, setRange, ETy.enc, ETy.dec, ETy.sz, ETy.d, cond, Nat.reduceBEq, Nat.reduceAdd, Int.toNat_natCast, List.length_set, List.length_append, List.length_replicate, List.length_take, Nat.reduceSub, Nat.reduceEqDiff, get_loc, setBox_loc, next_eq, List.length_cons, List.length_nil, List.map_cons, List.map_nil, List.append_nil, List.nil_append, List.cons_append, List.set_cons_zero, List.set_cons_succ, getD_zero, getD_succ, List.getElem?_cons_succ, List.getElem?_cons_zero, List.take_succ_cons, List.take_zero, List.drop_succ_cons, List.all_cons, List.all_nil, Bool.and_true, Bool.true_and, Option.bind_some, Option.map_some, Option.map_none, decide_eq_true_eq, decide_eq_false_iff_not, ne_eq, Bool.not_eq_true, Bool.not_eq_false, Decidable.not_not, not_true_eq_false, not_false_eq_true, forall_const, false_implies, Bool.true_eq_false, Bool.false_eq_true, reduceCtorEq, decide_true, decide_false, Bool.not_true, Bool.not_false, if_true, if_false, Nat.zero_add, Nat.lt_irrefl, Value.oneCell', gt_iff_lt, Nat.reduceLeDiff, Nat.lt_add_one, vvar_3, vzero_3, vknd_3, vsn_3, vvar_4, vzero_4, vknd_4, vsn_4, vvar_46, vzero_46, vbld_46, vpts_46, vsl_48, vkn_48, vvar_48, vzero_48]; try simp (disch := omega) only [wrap64]) | (with_reducible refine hK' _ ?_; clear hK' K') | (with_reducible refine hK _ ?_; clear hK K) | (with_reducible first | refine And.intro (And.intro rfl rfl) ?_ | refine And.intro (by omega) ?_) | (with_reducible refine And.intro (fun hg => ?_) (fun hg => ?_) <;> first | simp only [eq_false hg, rsB] | simp only [eq_true hg, rsB] | simp only [hg, rsB]) | (with_reducible first | refine And.intro rfl (And.intro rfl rfl) | refine thenQ_n ?_ | refine thenQ_exit ?_ | refine thenQ_ret ?_ | refine midQ_ret ?_ | refine midQ_exit ?_ | refine blockQ_same ?_ | refine blockQ_ne (by decide) ?_ | refine blockQ_ret ?_ | refine blockQ_n ?_ | refine AW.exit ?_ | refine AW.block ?_ | refine AW.cond_t rfl ?_ | refine AW.cond_f rfl ?_ | refine AW.cond_dec rfl (fun hc => ?_) (fun hc => ?_)) | (with_reducible refine AW.cond rfl (fun hc => ?_) (fun hc => ?_) <;> try simp only [Bool.not_eq_eq_eq_not, Bool.not_true, Bool.not_false, decide_eq_true_eq, decide_eq_false_iff_not] at hc) | (with_reducible first | refine AW.seq ?_ | refine AW.skip ?_ | refine AW.ret ?_ | refine And.intro ?_ ?_) | (with_reducible intro hg; first | simp only [eq_false hg, rsB] | simp only [eq_true hg, rsB]) | (with_reducible refine retQ_drop ?_; simp only [vRes, packRes, vLoad, vPart, lk, cond, Nat.reduceBEq, get_loc, getD_zero, getD_succ, true_and, List.length_cons, List.length_nil, Nat.reduceAdd, Nat.reduceLT, Nat.reduceLeDiff, List.take_succ_cons, List.take_zero, List.drop_succ_cons, List.drop_zero, vvar_3, vzero_3, vknd_3, vsn_3, vvar_4, vzero_4, vknd_4, vsn_4, vvar_46, vzero_46, vbld_46, vpts_46, vsl_48, vkn_48, vvar_48, vzero_48]) )
  refine AW.loop (fun i : Nat => (⟨18, [(0, .rd .pt (L)), (3, .ptr 1 (H.length + 0) 0 0), (5, .v (.int .i64 ((i : Int))))], H, [.box false [.v (.int .i64 (p).1), .v (.int .i64 (p).2)]]⟩ : St)) (fun i => i ≤ L.length ∧ ∀ j, j < i → L.getD j (0, 0) ≠ p) (fun i => L.length - i) 0 ⟨Nat.zero_le _, fun j hj => by omega⟩ ?_ ?_
  · exact (Weak.sel [0] hB (by decide) (by (repeat' (first | exact trivial | exact RenB.plRow rfl | exact RenB.dead _ | exact RenB.map _ _ | exact RenB.iter rfl | refine And.intro ?_ ?_ | (refine RenB.plBox ?_; (repeat' (first | exact Pl.v _ | exact Pl.junk | exact Pl.rd rfl _ | exact pl_nil | refine pl_cons ?_ ?_ | refine Pl.agg ?_ | refine Pl.tup ?_ | refine Pl.rp ?_ | refine Pl.fn ?_)); (first | done | fail)) | refine RenB.of ?_ | exact RenV.ptr rfl | exact RenV.sl rfl | exact RenV.mp rfl | exact RenV.it rfl | exact RenV.low (IdsLt.mp (by assumption)) | (refine RenV.pl ?_; (repeat' (first | exact Pl.v _ | exact Pl.junk | exact Pl.rd rfl _ | exact pl_nil | refine pl_cons ?_ ?_ | refine Pl.agg ?_ | refine Pl.tup ?_ | refine Pl.rp ?_ | refine Pl.fn ?_)); (first | done | fail)) | refine RenV.aggL ?_ | refine RenV.fnL ?_ | exact Nat.lt_of_sub_pos (by decide) | (simp; (first | done | fail)))); (first | done | fail)) (by (repeat' (first | exact trivial | exact RenV.ptr rfl | exact RenV.sl rfl | exact RenV.mp rfl | exact RenV.it rfl | exact RenV.low (IdsLt.mp (by assumption)) | exact RenV.low (.v _) | exact RenV.low (IdsLt.ptr (by assumption)) | (refine RenV.pl ?_; (repeat' (first | exact Pl.v _ | exact Pl.junk | exact Pl.rd rfl _ | exact pl_nil | refine pl_cons ?_ ?_ | refine Pl.agg ?_ | refine Pl.tup ?_ | refine Pl.rp ?_ | refine Pl.fn ?_)); (first | done | fail)) | refine RenV.fnL ?_ | refine RenV.aggL ?_ | refine And.intro ?_ ?_)); (first | done | fail)))
  intro i ⟨hi, hI⟩
  by_cases hin : i < L.length
  · by_cases he : L.getD i (0, 0) = p
    · have h1 : (L.getD i (0, 0)).1 = p.1 := congrArg Prod.fst he
      have h2 : (L.getD i (0, 0)).2 = p.2 := congrArg Prod.snd he
      have hmem : p ∈ L := by
        rw [← he]
        simp only [List.getD, List.getElem?_eq_getElem hin, Option.getD_some]
        exact List.getElem_mem hin
      have hd : decide (p ∈ L) = true := decide_eq_true hmem
      have heq : ((L.getD i (0, 0)).1 = p.1 ∧ (L.getD i (0, 0)).2 = p.2) = True := eq_true ⟨h1, h2⟩
      repeat' (first | (with_reducible first | refine AW.sreg envOk fun K hK => ?_ | refine AW.region envOk fun K hK => ?_) | (with_reducible refine AW.d0reg envOk mixed ?_ ?_ fun K hK => ?_; (first | rfl | exact base_len | exact base_len0); kernel_rfl) | (with_reducible refine AW.d0 envOk mixed ?_ ?_ fun K hK => ?_; (first | rfl | exact base_len | exact base_len0); kernel_rfl) | (with_reducible first | refine vcD_nil ?_ | refine vcL_nil ?_) | (with_reducible (first | refine vcD_cons fun K' hK' => ?_ | refine vcL_cons fun K' hK' => ?_); simp only [isC, Bool.false_or, Bool.or_true, ↓reduceDIte, List.take_length, Nat.le_refl, List.drop_zero, vGuard, undef, Bool.not_eq_eq_eq_not, dstOk, vcOp, vcF, isPure, putS, vcCall, St.ev, St.put, lk, AVal.ofVal, initS, Nat.reduceLT, true_and, and_true, vBin, vPart, vLoad, vIdxA, vLen, vBox, partsA, fillA, decAll, AVal.flat, AVal.cell, cellsOk, setRange, ETy.enc, ETy.dec, ETy.sz, ETy.d, cond, Nat.reduceBEq, Nat.reduceAdd, Int.toNat_natCast, List.length_set, List.length_append, List.length_replicate, List.length_take, Nat.reduceSub, Nat.reduceEqDiff, get_loc, setBox_loc, next_eq, List.length_cons, List.length_nil, List.map_cons, List.map_nil, List.append_nil, List.nil_append, List.cons_append, List.set_cons_zero, List.set_cons_succ, getD_zero, getD_succ, List.getElem?_cons_succ, List.getElem?_cons_zero, List.take_succ_cons, List.take_zero, List.drop_succ_cons, List.all_cons, List.all_nil, Bool.and_true, Bool.true_and, Option.bind_some, Option.map_some, Option.map_none, decide_eq_true_eq, decide_eq_false_iff_not, ne_eq, Bool.not_eq_true, Bool.not_eq_false, Decidable.not_not, not_true_eq_false, not_false_eq_true, forall_const, false_implies, Bool.true_eq_false, Bool.false_eq_true, reduceCtorEq, decide_true, decide_false, Bool.not_true, Bool.not_false, if_true, if_false, Nat.zero_add, Nat.lt_irrefl, Value.oneCell', gt_iff_lt, Nat.reduceLeDiff, Nat.lt_add_one, vvar_3, vzero_3, vknd_3, vsn_3, vvar_4, vzero_4, vknd_4, vsn_4, vvar_46, vzero_46, vbld_46, vpts_46, vsl_48, vkn_48, vvar_48, vzero_48, heq]; try simp (disch := omega) only [wrap64]) | (with_reducible refine hK' _ ?_; clear hK' K') | (with_reducible refine hK _ ?_; clear hK K) | (with_reducible first | refine And.intro (And.intro rfl rfl) ?_ | refine And.intro (by omega) ?_) | (with_reducible refine And.intro (fun hg => ?_) (fun hg => ?_) <;> first | simp only [eq_false hg, rsB] | simp only [eq_true hg, rsB] | simp only [hg, rsB]) | (with_reducible first | refine And.intro rfl (And.intro rfl rfl) | refine thenQ_n ?_ | refine thenQ_exit ?_ | refine thenQ_ret ?_ | refine midQ_ret ?_ | refine midQ_exit ?_ | refine blockQ_same ?_ | refine blockQ_ne (by decide) ?_ | refine blockQ_ret ?_ | refine blockQ_n ?_ | refine AW.exit ?_ | refine AW.block ?_ | refine AW.cond_t rfl ?_ | refine AW.cond_f rfl ?_ | refine AW.cond_dec rfl (fun hc => ?_) (fun hc => ?_)) | (with_reducible refine AW.cond rfl (fun hc => ?_) (fun hc => ?_) <;> try simp only [Bool.not_eq_eq_eq_not, Bool.not_true, Bool.not_false, decide_eq_true_eq, decide_eq_false_iff_not] at hc) | (with_reducible first | refine AW.seq ?_ | refine AW.skip ?_ | refine AW.ret ?_ | refine And.intro ?_ ?_) | (with_reducible intro hg; first | simp only [eq_false hg, rsB] | simp only [eq_true hg, rsB]) | (with_reducible refine retQ_drop ?_; simp only [vRes, packRes, vLoad, vPart, lk, cond, Nat.reduceBEq, get_loc, getD_zero, getD_succ, true_and, List.length_cons, List.length_nil, Nat.reduceAdd, Nat.reduceLT, Nat.reduceLeDiff, List.take_succ_cons, List.take_zero, List.drop_succ_cons, List.drop_zero, vvar_3, vzero_3, vknd_3, vsn_3, vvar_4, vzero_4, vknd_4, vsn_4, vvar_46, vzero_46, vbld_46, vpts_46, vsl_48, vkn_48, vvar_48, vzero_48]) )
      all_goals first
        | (exfalso; omega)
        | skip
      all_goals (rw [hd]; exact ⟨_, _, FinOk.drop hB (Pl.ids (by (repeat' (first | exact Pl.v _ | exact Pl.junk | exact Pl.rd rfl _ | exact pl_nil | refine pl_cons ?_ ?_ | refine Pl.agg ?_ | refine Pl.tup ?_ | refine Pl.rp ?_ | refine Pl.fn ?_)); (first | done | fail))), rfl, rfl⟩)
    · have heq : ((L.getD i (0, 0)).1 = p.1 ∧ (L.getD i (0, 0)).2 = p.2) = False := eq_false (fun h => he (Prod.ext h.1 h.2))
      repeat' (first | (with_reducible first | refine AW.sreg envOk fun K hK => ?_ | refine AW.region envOk fun K hK => ?_) | (with_reducible refine AW.d0reg envOk mixed ?_ ?_ fun K hK => ?_; (first | rfl | exact base_len | exact base_len0); kernel_rfl) | (with_reducible refine AW.d0 envOk mixed ?_ ?_ fun K hK => ?_; (first | rfl | exact base_len | exact base_len0); kernel_rfl) | (with_reducible first | refine vcD_nil ?_ | refine vcL_nil ?_) | (with_reducible (first | refine vcD_cons fun K' hK' => ?_ | refine vcL_cons fun K' hK' => ?_); simp only [isC, Bool.false_or, Bool.or_true, ↓reduceDIte, List.take_length, Nat.le_refl, List.drop_zero, vGuard, undef, Bool.not_eq_eq_eq_not, dstOk, vcOp, vcF, isPure, putS, vcCall, St.ev, St.put, lk, AVal.ofVal, initS, Nat.reduceLT, true_and, and_true, vBin, vPart, vLoad, vIdxA, vLen, vBox, partsA, fillA, decAll, AVal.flat, AVal.cell, cellsOk, setRange, ETy.enc, ETy.dec, ETy.sz, ETy.d, cond, Nat.reduceBEq, Nat.reduceAdd, Int.toNat_natCast, List.length_set, List.length_append, List.length_replicate, List.length_take, Nat.reduceSub, Nat.reduceEqDiff, get_loc, setBox_loc, next_eq, List.length_cons, List.length_nil, List.map_cons, List.map_nil, List.append_nil, List.nil_append, List.cons_append, List.set_cons_zero, List.set_cons_succ, getD_zero, getD_succ, List.getElem?_cons_succ, List.getElem?_cons_zero, List.take_succ_cons, List.take_zero, List.drop_succ_cons, List.all_cons, List.all_nil, Bool.and_true, Bool.true_and, Option.bind_some, Option.map_some, Option.map_none, decide_eq_true_eq, decide_eq_false_iff_not, ne_eq, Bool.not_eq_true, Bool.not_eq_false, Decidable.not_not, not_true_eq_false, not_false_eq_true, forall_const, false_implies, Bool.true_eq_false, Bool.false_eq_true, reduceCtorEq, decide_true, decide_false, Bool.not_true, Bool.not_false, if_true, if_false, Nat.zero_add, Nat.lt_irrefl, Value.oneCell', gt_iff_lt, Nat.reduceLeDiff, Nat.lt_add_one, vvar_3, vzero_3, vknd_3, vsn_3, vvar_4, vzero_4, vknd_4, vsn_4, vvar_46, vzero_46, vbld_46, vpts_46, vsl_48, vkn_48, vvar_48, vzero_48, heq]; try simp (disch := omega) only [wrap64]) | (with_reducible refine hK' _ ?_; clear hK' K') | (with_reducible refine hK _ ?_; clear hK K) | (with_reducible first | refine And.intro (And.intro rfl rfl) ?_ | refine And.intro (by omega) ?_) | (with_reducible refine And.intro (fun hg => ?_) (fun hg => ?_) <;> first | simp only [eq_false hg, rsB] | simp only [eq_true hg, rsB] | simp only [hg, rsB]) | (with_reducible first | refine And.intro rfl (And.intro rfl rfl) | refine thenQ_n ?_ | refine thenQ_exit ?_ | refine thenQ_ret ?_ | refine midQ_ret ?_ | refine midQ_exit ?_ | refine blockQ_same ?_ | refine blockQ_ne (by decide) ?_ | refine blockQ_ret ?_ | refine blockQ_n ?_ | refine AW.exit ?_ | refine AW.block ?_ | refine AW.cond_t rfl ?_ | refine AW.cond_f rfl ?_ | refine AW.cond_dec rfl (fun hc => ?_) (fun hc => ?_)) | (with_reducible refine AW.cond rfl (fun hc => ?_) (fun hc => ?_) <;> try simp only [Bool.not_eq_eq_eq_not, Bool.not_true, Bool.not_false, decide_eq_true_eq, decide_eq_false_iff_not] at hc) | (with_reducible first | refine AW.seq ?_ | refine AW.skip ?_ | refine AW.ret ?_ | refine And.intro ?_ ?_) | (with_reducible intro hg; first | simp only [eq_false hg, rsB] | simp only [eq_true hg, rsB]) | (with_reducible refine retQ_drop ?_; simp only [vRes, packRes, vLoad, vPart, lk, cond, Nat.reduceBEq, get_loc, getD_zero, getD_succ, true_and, List.length_cons, List.length_nil, Nat.reduceAdd, Nat.reduceLT, Nat.reduceLeDiff, List.take_succ_cons, List.take_zero, List.drop_succ_cons, List.drop_zero, vvar_3, vzero_3, vknd_3, vsn_3, vvar_4, vzero_4, vknd_4, vsn_4, vvar_46, vzero_46, vbld_46, vpts_46, vsl_48, vkn_48, vvar_48, vzero_48]) )
      all_goals first
        | (exfalso; omega)
        | skip
      refine ⟨i + 1, ⟨by omega, fun j hj => ?_⟩, by omega, (Weak.slots (by repeat' first | exact trivial | exact ⟨rfl, trivial⟩ | refine ⟨rfl, ?_⟩))⟩
      by_cases e : j = i
      · subst e; exact he
      · exact hI j (by omega)
  · obtain rfl : i = L.length := by omega
    have hd : decide (p ∈ L) = false := decide_eq_false (fun h => by
      obtain ⟨j, hj, e⟩ := List.mem_iff_getElem.1 h
      exact hI j hj (by simp [List.getD, hj, e]))
    repeat' (first | (with_reducible first | refine AW.sreg envOk fun K hK => ?_ | refine AW.region envOk fun K hK => ?_) | (with_reducible refine AW.d0reg envOk mixed ?_ ?_ fun K hK => ?_; (first | rfl | exact base_len | exact base_len0); kernel_rfl) | (with_reducible refine AW.d0 envOk mixed ?_ ?_ fun K hK => ?_; (first | rfl | exact base_len | exact base_len0); kernel_rfl) | (with_reducible first | refine vcD_nil ?_ | refine vcL_nil ?_) | (with_reducible (first | refine vcD_cons fun K' hK' => ?_ | refine vcL_cons fun K' hK' => ?_); simp only [isC, Bool.false_or, Bool.or_true, ↓reduceDIte, List.take_length, Nat.le_refl, List.drop_zero, vGuard, undef, Bool.not_eq_eq_eq_not, dstOk, vcOp, vcF, isPure, putS, vcCall, St.ev, St.put, lk, AVal.ofVal, initS, Nat.reduceLT, true_and, and_true, vBin, vPart, vLoad, vIdxA, vLen, vBox, partsA, fillA, decAll, AVal.flat, AVal.cell, cellsOk, setRange, ETy.enc, ETy.dec, ETy.sz, ETy.d, cond, Nat.reduceBEq, Nat.reduceAdd, Int.toNat_natCast, List.length_set, List.length_append, List.length_replicate, List.length_take, Nat.reduceSub, Nat.reduceEqDiff, get_loc, setBox_loc, next_eq, List.length_cons, List.length_nil, List.map_cons, List.map_nil, List.append_nil, List.nil_append, List.cons_append, List.set_cons_zero, List.set_cons_succ, getD_zero, getD_succ, List.getElem?_cons_succ, List.getElem?_cons_zero, List.take_succ_cons, List.take_zero, List.drop_succ_cons, List.all_cons, List.all_nil, Bool.and_true, Bool.true_and, Option.bind_some, Option.map_some, Option.map_none, decide_eq_true_eq, decide_eq_false_iff_not, ne_eq, Bool.not_eq_true, Bool.not_eq_false, Decidable.not_not, not_true_eq_false, not_false_eq_true, forall_const, false_implies, Bool.true_eq_false, Bool.false_eq_true, reduceCtorEq, decide_true, decide_false, Bool.not_true, Bool.not_false, if_true, if_false, Nat.zero_add, Nat.lt_irrefl, Value.oneCell', gt_iff_lt, Nat.reduceLeDiff, Nat.lt_add_one, vvar_3, vzero_3, vknd_3, vsn_3, vvar_4, vzero_4, vknd_4, vsn_4, vvar_46, vzero_46, vbld_46, vpts_46, vsl_48, vkn_48, vvar_48, vzero_48]; try simp (disch := omega) only [wrap64]) | (with_reducible refine hK' _ ?_; clear hK' K') | (with_reducible refine hK _ ?_; clear hK K) | (with_reducible first | refine And.intro (And.intro rfl rfl) ?_ | refine And.intro (by omega) ?_) | (with_reducible refine And.intro (fun hg => ?_) (fun hg => ?_) <;> first | simp only [eq_false hg, rsB] | simp only [eq_true hg, rsB] | simp only [hg, rsB]) | (with_reducible first | refine And.intro rfl (And.intro rfl rfl) | refine thenQ_n ?_ | refine thenQ_exit ?_ | refine thenQ_ret ?_ | refine midQ_ret ?_ | refine midQ_exit ?_ | refine blockQ_same ?_ | refine blockQ_ne (by decide) ?_ | refine blockQ_ret ?_ | refine blockQ_n ?_ | refine AW.exit ?_ | refine AW.block ?_ | refine AW.cond_t rfl ?_ | refine AW.cond_f rfl ?_ | refine AW.cond_dec rfl (fun hc => ?_) (fun hc => ?_)) | (with_reducible refine AW.cond rfl (fun hc => ?_) (fun hc => ?_) <;> try simp only [Bool.not_eq_eq_eq_not, Bool.not_true, Bool.not_false, decide_eq_true_eq, decide_eq_false_iff_not] at hc) | (with_reducible first | refine AW.seq ?_ | refine AW.skip ?_ | refine AW.ret ?_ | refine And.intro ?_ ?_) | (with_reducible intro hg; first | simp only [eq_false hg, rsB] | simp only [eq_true hg, rsB]) | (with_reducible refine retQ_drop ?_; simp only [vRes, packRes, vLoad, vPart, lk, cond, Nat.reduceBEq, get_loc, getD_zero, getD_succ, true_and, List.length_cons, List.length_nil, Nat.reduceAdd, Nat.reduceLT, Nat.reduceLeDiff, List.take_succ_cons, List.take_zero, List.drop_succ_cons, List.drop_zero, vvar_3, vzero_3, vknd_3, vsn_3, vvar_4, vzero_4, vknd_4, vsn_4, vvar_46, vzero_46, vbld_46, vpts_46, vsl_48, vkn_48, vvar_48, vzero_48]) )
    all_goals first
      | (exfalso; omega)
      | skip
    rw [hd]
    exact ⟨_, _, FinOk.drop hB (Pl.ids (by (repeat' (first | exact Pl.v _ | exact Pl.junk | exact Pl.rd rfl _ | exact pl_nil | refine pl_cons ?_ ?_ | refine Pl.agg ?_ | refine Pl.tup ?_ | refine Pl.rp ?_ | refine Pl.fn ?_)); (first | done | fail))), rfl, rfl⟩
/-- Rows of rows held against themselves. -/
theorem rows24_ac (a : Mz) (ha : Fits 1048576 a) (H : List ABox) : AC Tryd.prog 24 [.rd (.sli .i64) (a), .rd (.sli .i64) (a)] H (fun r H' => r = .v (.bool (true)) ∧ H' = H) := by
  obtain ⟨ha1, ha2⟩ := ha
  refine AC.enter envOk Tryd.func24 rfl (by decide) Tryd.ntmps24 Tryd.results24 (by simp) fun hB => ?_
  repeat' (first | (with_reducible first | refine AW.sreg envOk fun K hK => ?_ | refine AW.region envOk fun K hK => ?_) | (with_reducible refine AW.d0reg envOk mixed ?_ ?_ fun K hK => ?_; (first | rfl | exact base_len | exact base_len0); kernel_rfl) | (with_reducible refine AW.d0 envOk mixed ?_ ?_ fun K hK => ?_; (first | rfl | exact base_len | exact base_len0); kernel_rfl) | (with_reducible first | refine vcD_nil ?_ | refine vcL_nil ?_) | (with_reducible (first | refine vcD_cons fun K' hK' => ?_ | refine vcL_cons fun K' hK' => ?_); simp only [isC, Bool.false_or, Bool.or_true, ↓reduceDIte, List.take_length, Nat.le_refl, List.drop_zero, vGuard, undef, Bool.not_eq_eq_eq_not, dstOk, vcOp, vcF, isPure, putS, vcCall, St.ev, St.put, lk, AVal.ofVal, initS, Nat.reduceLT, true_and, and_true, vBin, vPart, vLoad, vIdxA, vLen, AVal.flat, AVal.cell, cellsOk, setRange, ETy.enc, ETy.dec, ETy.sz, ETy.d, cond, Nat.reduceBEq, Nat.reduceAdd, Int.toNat_natCast, List.length_set, List.length_append, List.length_replicate, List.length_take, Nat.reduceSub, Nat.reduceEqDiff, get_loc, setBox_loc, next_eq, List.length_cons, List.length_nil, List.map_cons, List.map_nil, List.append_nil, List.nil_append, List.cons_append, List.set_cons_zero, List.set_cons_succ, getD_zero, getD_succ, List.getElem?_cons_succ, List.getElem?_cons_zero, List.take_succ_cons, List.take_zero, List.drop_succ_cons, List.all_cons, List.all_nil, Bool.and_true, Bool.true_and, Option.bind_some, Option.map_some, Option.map_none, decide_eq_true_eq, decide_eq_false_iff_not, ne_eq, Bool.not_eq_true, Bool.not_eq_false, Decidable.not_not, not_true_eq_false, not_false_eq_true, forall_const, false_implies, Bool.true_eq_false, Bool.false_eq_true, reduceCtorEq, decide_true, decide_false, Bool.not_true, Bool.not_false, if_true, if_false, Nat.zero_add, Nat.lt_irrefl, Value.oneCell', gt_iff_lt, Nat.reduceLeDiff, Nat.lt_add_one, vvar_2, vzero_2, vknd_2, vsn_2, vvar_3, vzero_3, vknd_3, vsn_3, vvar_4, vzero_4, vknd_4, vsn_4, vsl_24, vkn_24, vvar_24, vzero_24, vsl_41, vkn_41, vvar_41, vzero_41]; try simp (disch := omega) only [wrap64]) | (with_reducible refine hK' _ ?_; clear hK' K') | (with_reducible refine hK _ ?_; clear hK K) | (with_reducible first | refine And.intro (And.intro rfl rfl) ?_ | refine And.intro (by omega) ?_) | (with_reducible refine And.intro (fun hg => ?_) (fun hg => ?_) <;> first | simp only [eq_false hg, rsB] | simp only [eq_true hg, rsB] | simp only [hg, rsB]) | (with_reducible first | refine And.intro rfl (And.intro rfl rfl) | refine thenQ_n ?_ | refine thenQ_exit ?_ | refine thenQ_ret ?_ | refine midQ_ret ?_ | refine midQ_exit ?_ | refine blockQ_same ?_ | refine blockQ_ne (by decide) ?_ | refine blockQ_ret ?_ | refine blockQ_n ?_ | refine AW.exit ?_ | refine AW.block ?_ | refine AW.cond_t rfl ?_ | refine AW.cond_f rfl ?_ | refine AW.cond_dec rfl (fun hc => ?_) (fun hc => ?_)) | (with_reducible refine AW.cond rfl (fun hc => ?_) (fun hc => ?_) <;> try simp only [Bool.not_eq_eq_eq_not, Bool.not_true, Bool.not_false, decide_eq_true_eq, decide_eq_false_iff_not] at hc) | (with_reducible first | refine AW.seq ?_ | refine AW.skip ?_ | refine AW.ret ?_ | refine And.intro ?_ ?_) | (with_reducible intro hg; first | simp only [eq_false hg, rsB] | simp only [eq_true hg, rsB]) | (with_reducible refine retQ_drop ?_; simp only [vRes, packRes, vLoad, vPart, lk, cond, Nat.reduceBEq, get_loc, getD_zero, getD_succ, true_and, List.length_cons, List.length_nil, Nat.reduceAdd, Nat.reduceLT, Nat.reduceLeDiff, List.take_succ_cons, List.take_zero, List.drop_succ_cons, List.drop_zero, vvar_2, vzero_2, vknd_2, vsn_2, vvar_3, vzero_3, vknd_3, vsn_3, vvar_4, vzero_4, vknd_4, vsn_4, vsl_24, vkn_24, vvar_24, vzero_24, vsl_41, vkn_41, vvar_41, vzero_41]) )
  all_goals first
    | (exfalso; omega)
    | skip
  refine AW.loop (fun i : Nat => (⟨53, [(0, .rd (.sli .i64) (a)), (1, .rd (.sli .i64) (a)), (5, .v (.int .i64 ((i : Int))))], H, []⟩ : St)) (fun i => i ≤ a.length) (fun i => a.length - i) 0 (Nat.zero_le _) (Weak.slots (by repeat' first | exact trivial | exact ⟨rfl, trivial⟩ | refine ⟨rfl, ?_⟩)) ?_
  intro i hi
  have h1 := ha2 i
  by_cases hin : i < a.length
  ·
    repeat' (first | (with_reducible first | refine AW.sreg envOk fun K hK => ?_ | refine AW.region envOk fun K hK => ?_) | (with_reducible refine AW.d0reg envOk mixed ?_ ?_ fun K hK => ?_; (first | rfl | exact base_len | exact base_len0); kernel_rfl) | (with_reducible refine AW.d0 envOk mixed ?_ ?_ fun K hK => ?_; (first | rfl | exact base_len | exact base_len0); kernel_rfl) | (with_reducible first | refine vcD_nil ?_ | refine vcL_nil ?_) | (with_reducible (first | refine vcD_cons fun K' hK' => ?_ | refine vcL_cons fun K' hK' => ?_); simp only [isC, Bool.false_or, Bool.or_true, ↓reduceDIte, List.take_length, Nat.le_refl, List.drop_zero, vGuard, undef, Bool.not_eq_eq_eq_not, dstOk, vcOp, vcF, isPure, putS, vcCall, St.ev, St.put, lk, AVal.ofVal, initS, Nat.reduceLT, true_and, and_true, vBin, vPart, vLoad, vIdxA, vLen, AVal.flat, AVal.cell, cellsOk, setRange, ETy.enc, ETy.dec, ETy.sz, ETy.d, cond, Nat.reduceBEq, Nat.reduceAdd, Int.toNat_natCast, List.length_set, List.length_append, List.length_replicate, List.length_take, Nat.reduceSub, Nat.reduceEqDiff, get_loc, setBox_loc, next_eq, List.length_cons, List.length_nil, List.map_cons, List.map_nil, List.append_nil, List.nil_append, List.cons_append, List.set_cons_zero, List.set_cons_succ, getD_zero, getD_succ, List.getElem?_cons_succ, List.getElem?_cons_zero, List.take_succ_cons, List.take_zero, List.drop_succ_cons, List.all_cons, List.all_nil, Bool.and_true, Bool.true_and, Option.bind_some, Option.map_some, Option.map_none, decide_eq_true_eq, decide_eq_false_iff_not, ne_eq, Bool.not_eq_true, Bool.not_eq_false, Decidable.not_not, not_true_eq_false, not_false_eq_true, forall_const, false_implies, Bool.true_eq_false, Bool.false_eq_true, reduceCtorEq, decide_true, decide_false, Bool.not_true, Bool.not_false, if_true, if_false, Nat.zero_add, Nat.lt_irrefl, Value.oneCell', gt_iff_lt, Nat.reduceLeDiff, Nat.lt_add_one, vvar_2, vzero_2, vknd_2, vsn_2, vvar_3, vzero_3, vknd_3, vsn_3, vvar_4, vzero_4, vknd_4, vsn_4, vsl_24, vkn_24, vvar_24, vzero_24, vsl_41, vkn_41, vvar_41, vzero_41]; try simp (disch := omega) only [wrap64]) | (with_reducible refine hK' _ ?_; clear hK' K') | (with_reducible refine hK _ ?_; clear hK K) | (with_reducible first | refine And.intro (And.intro rfl rfl) ?_ | refine And.intro (by omega) ?_) | (with_reducible refine And.intro (fun hg => ?_) (fun hg => ?_) <;> first | simp only [eq_false hg, rsB] | simp only [eq_true hg, rsB] | simp only [hg, rsB]) | (with_reducible first | refine And.intro rfl (And.intro rfl rfl) | refine thenQ_n ?_ | refine thenQ_exit ?_ | refine thenQ_ret ?_ | refine midQ_ret ?_ | refine midQ_exit ?_ | refine blockQ_same ?_ | refine blockQ_ne (by decide) ?_ | refine blockQ_ret ?_ | refine blockQ_n ?_ | refine AW.exit ?_ | refine AW.block ?_ | refine AW.cond_t rfl ?_ | refine AW.cond_f rfl ?_ | refine AW.cond_dec rfl (fun hc => ?_) (fun hc => ?_)) | (with_reducible refine AW.cond rfl (fun hc => ?_) (fun hc => ?_) <;> try simp only [Bool.not_eq_eq_eq_not, Bool.not_true, Bool.not_false, decide_eq_true_eq, decide_eq_false_iff_not] at hc) | (with_reducible first | refine AW.seq ?_ | refine AW.skip ?_ | refine AW.ret ?_ | refine And.intro ?_ ?_) | (with_reducible intro hg; first | simp only [eq_false hg, rsB] | simp only [eq_true hg, rsB]) | (with_reducible refine retQ_drop ?_; simp only [vRes, packRes, vLoad, vPart, lk, cond, Nat.reduceBEq, get_loc, getD_zero, getD_succ, true_and, List.length_cons, List.length_nil, Nat.reduceAdd, Nat.reduceLT, Nat.reduceLeDiff, List.take_succ_cons, List.take_zero, List.drop_succ_cons, List.drop_zero, vvar_2, vzero_2, vknd_2, vsn_2, vvar_3, vzero_3, vknd_3, vsn_3, vvar_4, vzero_4, vknd_4, vsn_4, vsl_24, vkn_24, vvar_24, vzero_24, vsl_41, vkn_41, vvar_41, vzero_41]) )
    all_goals first
      | (exfalso; omega)
      | skip
    refine AW.loop (fun k : Nat => (⟨53, [(0, .rd (.sli .i64) (a)), (1, .rd (.sli .i64) (a)), (5, .v (.int .i64 ((i : Int)))), (6, .v (.int .i64 ((k : Int))))], H, []⟩ : St)) (fun k => k ≤ (a.getD i []).length) (fun k => (a.getD i []).length - k) 0 (Nat.zero_le _) (Weak.slots (by repeat' first | exact trivial | exact ⟨rfl, trivial⟩ | refine ⟨rfl, ?_⟩)) ?_
    intro k hk
    by_cases hkn : k < (a.getD i []).length
    ·
      repeat' (first | (with_reducible first | refine AW.sreg envOk fun K hK => ?_ | refine AW.region envOk fun K hK => ?_) | (with_reducible refine AW.d0reg envOk mixed ?_ ?_ fun K hK => ?_; (first | rfl | exact base_len | exact base_len0); kernel_rfl) | (with_reducible refine AW.d0 envOk mixed ?_ ?_ fun K hK => ?_; (first | rfl | exact base_len | exact base_len0); kernel_rfl) | (with_reducible first | refine vcD_nil ?_ | refine vcL_nil ?_) | (with_reducible (first | refine vcD_cons fun K' hK' => ?_ | refine vcL_cons fun K' hK' => ?_); simp only [isC, Bool.false_or, Bool.or_true, ↓reduceDIte, List.take_length, Nat.le_refl, List.drop_zero, vGuard, undef, Bool.not_eq_eq_eq_not, dstOk, vcOp, vcF, isPure, putS, vcCall, St.ev, St.put, lk, AVal.ofVal, initS, Nat.reduceLT, true_and, and_true, vBin, vPart, vLoad, vIdxA, vLen, AVal.flat, AVal.cell, cellsOk, setRange, ETy.enc, ETy.dec, ETy.sz, ETy.d, cond, Nat.reduceBEq, Nat.reduceAdd, Int.toNat_natCast, List.length_set, List.length_append, List.length_replicate, List.length_take, Nat.reduceSub, Nat.reduceEqDiff, get_loc, setBox_loc, next_eq, List.length_cons, List.length_nil, List.map_cons, List.map_nil, List.append_nil, List.nil_append, List.cons_append, List.set_cons_zero, List.set_cons_succ, getD_zero, getD_succ, List.getElem?_cons_succ, List.getElem?_cons_zero, List.take_succ_cons, List.take_zero, List.drop_succ_cons, List.all_cons, List.all_nil, Bool.and_true, Bool.true_and, Option.bind_some, Option.map_some, Option.map_none, decide_eq_true_eq, decide_eq_false_iff_not, ne_eq, Bool.not_eq_true, Bool.not_eq_false, Decidable.not_not, not_true_eq_false, not_false_eq_true, forall_const, false_implies, Bool.true_eq_false, Bool.false_eq_true, reduceCtorEq, decide_true, decide_false, Bool.not_true, Bool.not_false, if_true, if_false, Nat.zero_add, Nat.lt_irrefl, Value.oneCell', gt_iff_lt, Nat.reduceLeDiff, Nat.lt_add_one, vvar_2, vzero_2, vknd_2, vsn_2, vvar_3, vzero_3, vknd_3, vsn_3, vvar_4, vzero_4, vknd_4, vsn_4, vsl_24, vkn_24, vvar_24, vzero_24, vsl_41, vkn_41, vvar_41, vzero_41]; try simp (disch := omega) only [wrap64]) | (with_reducible refine hK' _ ?_; clear hK' K') | (with_reducible refine hK _ ?_; clear hK K) | (with_reducible first | refine And.intro (And.intro rfl rfl) ?_ | refine And.intro (by omega) ?_) | (with_reducible refine And.intro (fun hg => ?_) (fun hg => ?_) <;> first | simp only [eq_false hg, rsB] | simp only [eq_true hg, rsB] | simp only [hg, rsB]) | (with_reducible first | refine And.intro rfl (And.intro rfl rfl) | refine thenQ_n ?_ | refine thenQ_exit ?_ | refine thenQ_ret ?_ | refine midQ_ret ?_ | refine midQ_exit ?_ | refine blockQ_same ?_ | refine blockQ_ne (by decide) ?_ | refine blockQ_ret ?_ | refine blockQ_n ?_ | refine AW.exit ?_ | refine AW.block ?_ | refine AW.cond_t rfl ?_ | refine AW.cond_f rfl ?_ | refine AW.cond_dec rfl (fun hc => ?_) (fun hc => ?_)) | (with_reducible refine AW.cond rfl (fun hc => ?_) (fun hc => ?_) <;> try simp only [Bool.not_eq_eq_eq_not, Bool.not_true, Bool.not_false, decide_eq_true_eq, decide_eq_false_iff_not] at hc) | (with_reducible first | refine AW.seq ?_ | refine AW.skip ?_ | refine AW.ret ?_ | refine And.intro ?_ ?_) | (with_reducible intro hg; first | simp only [eq_false hg, rsB] | simp only [eq_true hg, rsB]) | (with_reducible refine retQ_drop ?_; simp only [vRes, packRes, vLoad, vPart, lk, cond, Nat.reduceBEq, get_loc, getD_zero, getD_succ, true_and, List.length_cons, List.length_nil, Nat.reduceAdd, Nat.reduceLT, Nat.reduceLeDiff, List.take_succ_cons, List.take_zero, List.drop_succ_cons, List.drop_zero, vvar_2, vzero_2, vknd_2, vsn_2, vvar_3, vzero_3, vknd_3, vsn_3, vvar_4, vzero_4, vknd_4, vsn_4, vsl_24, vkn_24, vvar_24, vzero_24, vsl_41, vkn_41, vvar_41, vzero_41]) )
      all_goals first
        | (exfalso; omega)
        | contradiction
        | exact ⟨k + 1, by omega, by omega, (Weak.slots (by repeat' first | exact trivial | exact ⟨rfl, trivial⟩ | refine ⟨rfl, ?_⟩))⟩
    · obtain rfl : k = (a.getD i []).length := by omega
      repeat' (first | (with_reducible first | refine AW.sreg envOk fun K hK => ?_ | refine AW.region envOk fun K hK => ?_) | (with_reducible refine AW.d0reg envOk mixed ?_ ?_ fun K hK => ?_; (first | rfl | exact base_len | exact base_len0); kernel_rfl) | (with_reducible refine AW.d0 envOk mixed ?_ ?_ fun K hK => ?_; (first | rfl | exact base_len | exact base_len0); kernel_rfl) | (with_reducible first | refine vcD_nil ?_ | refine vcL_nil ?_) | (with_reducible (first | refine vcD_cons fun K' hK' => ?_ | refine vcL_cons fun K' hK' => ?_); simp only [isC, Bool.false_or, Bool.or_true, ↓reduceDIte, List.take_length, Nat.le_refl, List.drop_zero, vGuard, undef, Bool.not_eq_eq_eq_not, dstOk, vcOp, vcF, isPure, putS, vcCall, St.ev, St.put, lk, AVal.ofVal, initS, Nat.reduceLT, true_and, and_true, vBin, vPart, vLoad, vIdxA, vLen, AVal.flat, AVal.cell, cellsOk, setRange, ETy.enc, ETy.dec, ETy.sz, ETy.d, cond, Nat.reduceBEq, Nat.reduceAdd, Int.toNat_natCast, List.length_set, List.length_append, List.length_replicate, List.length_take, Nat.reduceSub, Nat.reduceEqDiff, get_loc, setBox_loc, next_eq, List.length_cons, List.length_nil, List.map_cons, List.map_nil, List.append_nil, List.nil_append, List.cons_append, List.set_cons_zero, List.set_cons_succ, getD_zero, getD_succ, List.getElem?_cons_succ, List.getElem?_cons_zero, List.take_succ_cons, List.take_zero, List.drop_succ_cons, List.all_cons, List.all_nil, Bool.and_true, Bool.true_and, Option.bind_some, Option.map_some, Option.map_none, decide_eq_true_eq, decide_eq_false_iff_not, ne_eq, Bool.not_eq_true, Bool.not_eq_false, Decidable.not_not, not_true_eq_false, not_false_eq_true, forall_const, false_implies, Bool.true_eq_false, Bool.false_eq_true, reduceCtorEq, decide_true, decide_false, Bool.not_true, Bool.not_false, if_true, if_false, Nat.zero_add, Nat.lt_irrefl, Value.oneCell', gt_iff_lt, Nat.reduceLeDiff, Nat.lt_add_one, vvar_2, vzero_2, vknd_2, vsn_2, vvar_3, vzero_3, vknd_3, vsn_3, vvar_4, vzero_4, vknd_4, vsn_4, vsl_24, vkn_24, vvar_24, vzero_24, vsl_41, vkn_41, vvar_41, vzero_41]; try simp (disch := omega) only [wrap64]) | (with_reducible refine hK' _ ?_; clear hK' K') | (with_reducible refine hK _ ?_; clear hK K) | (with_reducible first | refine And.intro (And.intro rfl rfl) ?_ | refine And.intro (by omega) ?_) | (with_reducible refine And.intro (fun hg => ?_) (fun hg => ?_) <;> first | simp only [eq_false hg, rsB] | simp only [eq_true hg, rsB] | simp only [hg, rsB]) | (with_reducible first | refine And.intro rfl (And.intro rfl rfl) | refine thenQ_n ?_ | refine thenQ_exit ?_ | refine thenQ_ret ?_ | refine midQ_ret ?_ | refine midQ_exit ?_ | refine blockQ_same ?_ | refine blockQ_ne (by decide) ?_ | refine blockQ_ret ?_ | refine blockQ_n ?_ | refine AW.exit ?_ | refine AW.block ?_ | refine AW.cond_t rfl ?_ | refine AW.cond_f rfl ?_ | refine AW.cond_dec rfl (fun hc => ?_) (fun hc => ?_)) | (with_reducible refine AW.cond rfl (fun hc => ?_) (fun hc => ?_) <;> try simp only [Bool.not_eq_eq_eq_not, Bool.not_true, Bool.not_false, decide_eq_true_eq, decide_eq_false_iff_not] at hc) | (with_reducible first | refine AW.seq ?_ | refine AW.skip ?_ | refine AW.ret ?_ | refine And.intro ?_ ?_) | (with_reducible intro hg; first | simp only [eq_false hg, rsB] | simp only [eq_true hg, rsB]) | (with_reducible refine retQ_drop ?_; simp only [vRes, packRes, vLoad, vPart, lk, cond, Nat.reduceBEq, get_loc, getD_zero, getD_succ, true_and, List.length_cons, List.length_nil, Nat.reduceAdd, Nat.reduceLT, Nat.reduceLeDiff, List.take_succ_cons, List.take_zero, List.drop_succ_cons, List.drop_zero, vvar_2, vzero_2, vknd_2, vsn_2, vvar_3, vzero_3, vknd_3, vsn_3, vvar_4, vzero_4, vknd_4, vsn_4, vsl_24, vkn_24, vvar_24, vzero_24, vsl_41, vkn_41, vvar_41, vzero_41]) )
      all_goals first
        | (exfalso; omega)
        | exact ⟨i + 1, by omega, by omega, (Weak.slots (by repeat' first | exact trivial | exact ⟨rfl, trivial⟩ | refine ⟨rfl, ?_⟩))⟩
  · obtain rfl : i = a.length := by omega
    repeat' (first | (with_reducible first | refine AW.sreg envOk fun K hK => ?_ | refine AW.region envOk fun K hK => ?_) | (with_reducible refine AW.d0reg envOk mixed ?_ ?_ fun K hK => ?_; (first | rfl | exact base_len | exact base_len0); kernel_rfl) | (with_reducible refine AW.d0 envOk mixed ?_ ?_ fun K hK => ?_; (first | rfl | exact base_len | exact base_len0); kernel_rfl) | (with_reducible first | refine vcD_nil ?_ | refine vcL_nil ?_) | (with_reducible (first | refine vcD_cons fun K' hK' => ?_ | refine vcL_cons fun K' hK' => ?_); simp only [isC, Bool.false_or, Bool.or_true, ↓reduceDIte, List.take_length, Nat.le_refl, List.drop_zero, vGuard, undef, Bool.not_eq_eq_eq_not, dstOk, vcOp, vcF, isPure, putS, vcCall, St.ev, St.put, lk, AVal.ofVal, initS, Nat.reduceLT, true_and, and_true, vBin, vPart, vLoad, vIdxA, vLen, AVal.flat, AVal.cell, cellsOk, setRange, ETy.enc, ETy.dec, ETy.sz, ETy.d, cond, Nat.reduceBEq, Nat.reduceAdd, Int.toNat_natCast, List.length_set, List.length_append, List.length_replicate, List.length_take, Nat.reduceSub, Nat.reduceEqDiff, get_loc, setBox_loc, next_eq, List.length_cons, List.length_nil, List.map_cons, List.map_nil, List.append_nil, List.nil_append, List.cons_append, List.set_cons_zero, List.set_cons_succ, getD_zero, getD_succ, List.getElem?_cons_succ, List.getElem?_cons_zero, List.take_succ_cons, List.take_zero, List.drop_succ_cons, List.all_cons, List.all_nil, Bool.and_true, Bool.true_and, Option.bind_some, Option.map_some, Option.map_none, decide_eq_true_eq, decide_eq_false_iff_not, ne_eq, Bool.not_eq_true, Bool.not_eq_false, Decidable.not_not, not_true_eq_false, not_false_eq_true, forall_const, false_implies, Bool.true_eq_false, Bool.false_eq_true, reduceCtorEq, decide_true, decide_false, Bool.not_true, Bool.not_false, if_true, if_false, Nat.zero_add, Nat.lt_irrefl, Value.oneCell', gt_iff_lt, Nat.reduceLeDiff, Nat.lt_add_one, vvar_2, vzero_2, vknd_2, vsn_2, vvar_3, vzero_3, vknd_3, vsn_3, vvar_4, vzero_4, vknd_4, vsn_4, vsl_24, vkn_24, vvar_24, vzero_24, vsl_41, vkn_41, vvar_41, vzero_41]; try simp (disch := omega) only [wrap64]) | (with_reducible refine hK' _ ?_; clear hK' K') | (with_reducible refine hK _ ?_; clear hK K) | (with_reducible first | refine And.intro (And.intro rfl rfl) ?_ | refine And.intro (by omega) ?_) | (with_reducible refine And.intro (fun hg => ?_) (fun hg => ?_) <;> first | simp only [eq_false hg, rsB] | simp only [eq_true hg, rsB] | simp only [hg, rsB]) | (with_reducible first | refine And.intro rfl (And.intro rfl rfl) | refine thenQ_n ?_ | refine thenQ_exit ?_ | refine thenQ_ret ?_ | refine midQ_ret ?_ | refine midQ_exit ?_ | refine blockQ_same ?_ | refine blockQ_ne (by decide) ?_ | refine blockQ_ret ?_ | refine blockQ_n ?_ | refine AW.exit ?_ | refine AW.block ?_ | refine AW.cond_t rfl ?_ | refine AW.cond_f rfl ?_ | refine AW.cond_dec rfl (fun hc => ?_) (fun hc => ?_)) | (with_reducible refine AW.cond rfl (fun hc => ?_) (fun hc => ?_) <;> try simp only [Bool.not_eq_eq_eq_not, Bool.not_true, Bool.not_false, decide_eq_true_eq, decide_eq_false_iff_not] at hc) | (with_reducible first | refine AW.seq ?_ | refine AW.skip ?_ | refine AW.ret ?_ | refine And.intro ?_ ?_) | (with_reducible intro hg; first | simp only [eq_false hg, rsB] | simp only [eq_true hg, rsB]) | (with_reducible refine retQ_drop ?_; simp only [vRes, packRes, vLoad, vPart, lk, cond, Nat.reduceBEq, get_loc, getD_zero, getD_succ, true_and, List.length_cons, List.length_nil, Nat.reduceAdd, Nat.reduceLT, Nat.reduceLeDiff, List.take_succ_cons, List.take_zero, List.drop_succ_cons, List.drop_zero, vvar_2, vzero_2, vknd_2, vsn_2, vvar_3, vzero_3, vknd_3, vsn_3, vvar_4, vzero_4, vknd_4, vsn_4, vsl_24, vkn_24, vvar_24, vzero_24, vsl_41, vkn_41, vvar_41, vzero_41]) )
    all_goals first
      | (exfalso; omega)
      | exact ⟨_, _, FinOk.drop hB (Pl.ids (by (repeat' (first | exact Pl.v _ | exact Pl.junk | exact Pl.rd rfl _ | exact pl_nil | refine pl_cons ?_ ?_ | refine Pl.agg ?_ | refine Pl.tup ?_ | refine Pl.rp ?_ | refine Pl.fn ?_)); (first | done | fail))), rfl, rfl⟩
theorem mzB_size {m : Mz} (h : MzOk m) : (⟨(mzB m).toArray⟩ : ByteArray).size ≤ 1048576 := by
  have := (rdm_size (read_back h)).1
  omega
end Go.Proofs.YtmkcahfhnehanaaDoor
end
section
set_option linter.unusedSimpArgs false
set_option linter.unusedVariables false
set_option maxHeartbeats 1000000
namespace Go.Proofs.YtmkcahfhnehanaaDoor
open Go.Eng
def U8 (cs : List Int) : Prop := ∀ n, 0 ≤ cs.getD n 0 ∧ cs.getD n 0 ≤ 255
/-- A source of choices, in memory. -/
def srcBox (cs : List Int) (z : Int × Int) : ABox := .box false [.rd (.int .u8) cs, .v (.int .i64 z.1), .v (.int .u64 z.2)]
theorem long44_ac (xs ys : List Int) (hx : xs.length ≤ 9223372036854775807) (hy : ys.length ≤ 9223372036854775807) (H : List ABox) : AC Tryd.prog 15 [.rd (.int .u8) xs, .rd (.int .u8) ys] H (fun r H' => r = .v (.bool (decide (48 < xs.length ∨ 48 < ys.length))) ∧ H' = H) := by
  refine AC.enter envOk Tryd.func15 rfl (by decide) Tryd.ntmps15 Tryd.results15 (by simp) fun hB => ?_
  repeat' (first | (with_reducible first | refine AW.sreg envOk fun K hK => ?_ | refine AW.region envOk fun K hK => ?_ | refine vcL_nil ?_) | (with_reducible (first | refine vcL_cons fun K' hK' => ?_); simp only [isC, Bool.false_or, Bool.or_true, ↓reduceDIte, List.take_length, Nat.le_refl, List.drop_zero, vGuard, undef, Bool.not_eq_eq_eq_not, dstOk, vcOp, vcF, isPure, putS, vcCall, St.ev, St.put, lk, AVal.ofVal, initS, Nat.reduceLT, true_and, and_true, vBin, vPick, vPart, vLoad, vLen, AVal.flat, AVal.cell, cellsOk, setRange, ETy.enc, ETy.dec, ETy.sz, ETy.d, cond, Nat.reduceBEq, Nat.reduceAdd, Int.toNat_natCast, List.length_set, List.length_append, List.length_replicate, List.length_take, Nat.reduceSub, Nat.reduceEqDiff, get_loc, setBox_loc, next_eq, List.length_cons, List.length_nil, List.map_cons, List.map_nil, List.append_nil, List.nil_append, List.cons_append, List.set_cons_zero, List.set_cons_succ, getD_zero, getD_succ, List.getElem?_cons_succ, List.getElem?_cons_zero, List.take_succ_cons, List.take_zero, List.drop_succ_cons, List.all_cons, List.all_nil, Bool.and_true, Bool.true_and, Option.bind_some, Option.map_some, Option.map_none, decide_eq_true_eq, decide_eq_false_iff_not, ne_eq, Bool.not_eq_true, Bool.not_eq_false, Decidable.not_not, not_true_eq_false, not_false_eq_true, forall_const, false_implies, Bool.true_eq_false, Bool.false_eq_true, reduceCtorEq, decide_true, decide_false, Bool.not_true, Bool.not_false, if_true, if_false, Nat.zero_add, Nat.lt_irrefl, Value.oneCell', gt_iff_lt, Nat.reduceLeDiff, Nat.lt_add_one, vvar_3, vzero_3, vknd_3, vsn_3, vvar_4, vzero_4, vknd_4, vsn_4, vsl_22, vkn_22, vvar_22, vzero_22, vbyt_22]; try simp (disch := omega) only [wrap64]) | (with_reducible refine hK' _ ?_; clear hK' K') | (with_reducible refine hK _ ?_; clear hK K) | (with_reducible first | refine And.intro (And.intro rfl rfl) ?_ | refine And.intro (by omega) ?_) | (with_reducible refine And.intro (fun hg => ?_) (fun hg => ?_) <;> first | simp only [eq_false hg, rsB] | simp only [eq_true hg, rsB] | simp only [hg, rsB]) | (with_reducible first | refine And.intro rfl (And.intro rfl rfl) | refine thenQ_n ?_ | refine thenQ_exit ?_ | refine thenQ_ret ?_ | refine midQ_ret ?_ | refine midQ_exit ?_ | refine blockQ_same ?_ | refine blockQ_ne (by decide) ?_ | refine blockQ_ret ?_ | refine blockQ_n ?_ | refine AW.exit ?_ | refine AW.block ?_ | refine AW.cond_t rfl ?_ | refine AW.cond_f rfl ?_ | refine AW.cond_dec rfl (fun hc => ?_) (fun hc => ?_)) | (with_reducible refine AW.cond rfl (fun hc => ?_) (fun hc => ?_) <;> try simp only [Bool.not_eq_eq_eq_not, Bool.not_true, Bool.not_false, decide_eq_true_eq, decide_eq_false_iff_not] at hc) | (with_reducible first | refine AW.seq ?_ | refine AW.skip ?_ | refine AW.ret ?_ | refine And.intro ?_ ?_) | (with_reducible intro hg; first | simp only [eq_false hg, rsB] | simp only [eq_true hg, rsB]) | (with_reducible refine retQ_drop ?_; simp only [vRes, packRes, vLoad, vPart, lk, cond, Nat.reduceBEq, get_loc, getD_zero, getD_succ, true_and, List.length_cons, List.length_nil, Nat.reduceAdd, Nat.reduceLT, Nat.reduceLeDiff, List.take_succ_cons, List.take_zero, List.drop_succ_cons, List.drop_zero, vvar_3, vzero_3, vknd_3, vsn_3, vvar_4, vzero_4, vknd_4, vsn_4, vsl_22, vkn_22, vvar_22, vzero_22, vbyt_22]) )
  all_goals refine ⟨_, _, FinOk.drop hB (Pl.ids (by (repeat' (first | exact Pl.v _ | exact Pl.junk | exact Pl.rd rfl _ | exact pl_nil | refine pl_cons ?_ ?_ | refine Pl.agg ?_ | refine Pl.tup ?_ | refine Pl.rp ?_ | refine Pl.fn ?_)); (first | done | fail))), ?_, rfl⟩
  all_goals refine v_bool ?_
  all_goals grind
theorem from85_ac (cs : List Int) (H : List ABox) : AC Tryd.prog 25 [.rd (.int .u8) cs] H (fun r H' => r = .ptr 1 (H.length + 0) 0 0 ∧ H' = H ++ [srcBox cs (0, 0)]) := by
  refine AC.enter envOk Tryd.func25 rfl (by decide) Tryd.ntmps25 Tryd.results25 (by simp) fun hB => ?_
  repeat' (first | (with_reducible first | refine AW.sreg envOk fun K hK => ?_ | refine AW.region envOk fun K hK => ?_ | refine vcL_nil ?_) | (with_reducible (first | refine vcL_cons fun K' hK' => ?_); simp only [isC, Bool.false_or, Bool.or_true, ↓reduceDIte, List.take_length, Nat.le_refl, List.drop_zero, vGuard, undef, Bool.not_eq_eq_eq_not, dstOk, vcOp, vcF, isPure, putS, vcCall, St.ev, St.put, lk, AVal.ofVal, initS, Nat.reduceLT, true_and, and_true, vPart, vLoad, vBox, vBuild, partsA, fillA, decAll, AVal.flat, AVal.cell, cellsOk, setRange, ETy.enc, ETy.dec, ETy.sz, ETy.d, cond, Nat.reduceBEq, Nat.reduceAdd, Int.toNat_natCast, List.length_set, List.length_append, List.length_replicate, List.length_take, Nat.reduceSub, Nat.reduceEqDiff, get_loc, setBox_loc, next_eq, List.length_cons, List.length_nil, List.map_cons, List.map_nil, List.append_nil, List.nil_append, List.cons_append, List.set_cons_zero, List.set_cons_succ, getD_zero, getD_succ, List.getElem?_cons_succ, List.getElem?_cons_zero, List.take_succ_cons, List.take_zero, List.drop_succ_cons, List.all_cons, List.all_nil, Bool.and_true, Bool.true_and, Option.bind_some, Option.map_some, Option.map_none, decide_eq_true_eq, decide_eq_false_iff_not, ne_eq, Bool.not_eq_true, Bool.not_eq_false, Decidable.not_not, not_true_eq_false, not_false_eq_true, forall_const, false_implies, Bool.true_eq_false, Bool.false_eq_true, reduceCtorEq, decide_true, decide_false, Bool.not_true, Bool.not_false, if_true, if_false, Nat.zero_add, Nat.lt_irrefl, Value.oneCell', gt_iff_lt, Nat.reduceLeDiff, Nat.lt_add_one, vsl_22, vkn_22, vvar_22, vzero_22, vbyt_22, vvar_57, vzero_57, vvar_87, vzero_87, vbld_87]; try simp (disch := omega) only [wrap64]) | (with_reducible refine hK' _ ?_; clear hK' K') | (with_reducible refine hK _ ?_; clear hK K) | (with_reducible first | refine And.intro (And.intro rfl rfl) ?_ | refine And.intro (by omega) ?_) | (with_reducible refine And.intro (fun hg => ?_) (fun hg => ?_) <;> first | simp only [eq_false hg, rsB] | simp only [eq_true hg, rsB] | simp only [hg, rsB]) | (with_reducible first | refine And.intro rfl (And.intro rfl rfl) | refine thenQ_n ?_ | refine thenQ_exit ?_ | refine thenQ_ret ?_ | refine midQ_ret ?_ | refine midQ_exit ?_ | refine blockQ_same ?_ | refine blockQ_ne (by decide) ?_ | refine blockQ_ret ?_ | refine blockQ_n ?_ | refine AW.exit ?_ | refine AW.block ?_ | refine AW.cond_t rfl ?_ | refine AW.cond_f rfl ?_ | refine AW.cond_dec rfl (fun hc => ?_) (fun hc => ?_)) | (with_reducible refine AW.cond rfl (fun hc => ?_) (fun hc => ?_) <;> try simp only [Bool.not_eq_eq_eq_not, Bool.not_true, Bool.not_false, decide_eq_true_eq, decide_eq_false_iff_not] at hc) | (with_reducible first | refine AW.seq ?_ | refine AW.skip ?_ | refine AW.ret ?_ | refine And.intro ?_ ?_) | (with_reducible intro hg; first | simp only [eq_false hg, rsB] | simp only [eq_true hg, rsB]) | (with_reducible refine retQ_drop ?_; simp only [vRes, packRes, vLoad, vPart, lk, cond, Nat.reduceBEq, get_loc, getD_zero, getD_succ, true_and, List.length_cons, List.length_nil, Nat.reduceAdd, Nat.reduceLT, Nat.reduceLeDiff, List.take_succ_cons, List.take_zero, List.drop_succ_cons, List.drop_zero, vsl_22, vkn_22, vvar_22, vzero_22, vbyt_22, vvar_57, vzero_57, vvar_87, vzero_87, vbld_87]) )
  exact ⟨_, _, FinOk.keep [0] (L := [srcBox cs (0, 0)]) hB (by decide) ⟨RenB.plBox (by (repeat' (first | exact Pl.v _ | exact Pl.junk | exact Pl.rd rfl _ | exact pl_nil | refine pl_cons ?_ ?_ | refine Pl.agg ?_ | refine Pl.tup ?_ | refine Pl.rp ?_ | refine Pl.fn ?_)); (first | done | fail)), by simp, trivial⟩ (RenV.ptr (j := 0) rfl), rfl, rfl⟩
theorem wrapAnd (y : Int) : 0 ≤ IntKind.i64.wrap (bitAnd .u64 y 255) ∧ IntKind.i64.wrap (bitAnd .u64 y 255) ≤ 255 := by rw [wrap64 (by have := bitAnd_255 y; omega)]; exact bitAnd_255 y
theorem next110e_ac (cs : List Int) (z : Int × Int) (hx : cs.length ≤ 1000000000) (hu : U8 cs) (hz : 0 ≤ z.1 ∧ z.1 ≤ 1000000000) (l : List ABox) (j : Nat) (hj : l[j]? = some (srcBox cs z)) (H : List ABox) (hH : BaseLt H.length H) :
    AC Tryd.prog 48 [.ptr 1 (H.length + j) 0 0] (H ++ l) (fun r H' => ∃ a b : Int, (0 ≤ a ∧ a ≤ 255) ∧ r = .v (.int .i64 (a)) ∧ H' = H ++ l.set j (srcBox cs (z.1 + 1, b))) := by
  have hjl : j < l.length := (List.getElem?_eq_some_iff.1 hj).1
  have hl : l.set j (srcBox cs z) = l := set_same hj
  rw [← hl]
  simp only [set_again]
  have h0 := hu z.1.toNat
  have h1 := bitAnd_255
  unfold srcBox
  refine AC.enter envOk Tryd.func48 rfl (by decide) Tryd.ntmps48 Tryd.results48 (by simp) fun hB => ?_
  repeat' (first | (with_reducible first | refine AW.sreg envOk fun K hK => ?_ | refine AW.region envOk fun K hK => ?_) | (with_reducible refine AW.d0reg envOk mixed ?_ ?_ fun K hK => ?_; (first | rfl | exact base_len | exact base_len0); kernel_rfl) | (with_reducible refine AW.d0 envOk mixed ?_ ?_ fun K hK => ?_; (first | rfl | exact base_len | exact base_len0); kernel_rfl) | (with_reducible first | refine vcD_nil ?_ | refine vcL_nil ?_) | (with_reducible (first | refine vcD_cons fun K' hK' => ?_ | refine vcL_cons fun K' hK' => ?_); simp only [isC, Bool.false_or, Bool.or_true, ↓reduceDIte, List.take_length, Nat.le_refl, List.drop_zero, vGuard, undef, Bool.not_eq_eq_eq_not, dstOk, vcOp, vcF, isPure, putS, vcCall, St.ev, St.put, lk, AVal.ofVal, initS, Nat.reduceLT, true_and, and_true, vBin, vConv, vPart, vLoad, vStore, vIdxA, vFldA, vLen, vNil, AVal.flat, AVal.cell, cellsOk, setRange, ETy.enc, ETy.dec, ETy.sz, ETy.d, cond, Nat.reduceBEq, Nat.reduceAdd, Int.toNat_natCast, List.length_set, List.length_append, List.length_replicate, List.length_take, Nat.reduceSub, Nat.reduceEqDiff, get_bl, setBox_bl, next_bl, List.length_cons, List.length_nil, List.map_cons, List.map_nil, List.append_nil, List.nil_append, List.cons_append, List.set_cons_zero, List.set_cons_succ, getD_zero, getD_succ, List.getElem?_cons_succ, List.getElem?_cons_zero, List.take_succ_cons, List.take_zero, List.drop_succ_cons, List.all_cons, List.all_nil, Bool.and_true, Bool.true_and, Option.bind_some, Option.map_some, Option.map_none, decide_eq_true_eq, decide_eq_false_iff_not, ne_eq, Bool.not_eq_true, Bool.not_eq_false, Decidable.not_not, not_true_eq_false, not_false_eq_true, forall_const, false_implies, Bool.true_eq_false, Bool.false_eq_true, reduceCtorEq, decide_true, decide_false, Bool.not_true, Bool.not_false, if_true, if_false, Nat.zero_add, Nat.lt_irrefl, Value.oneCell', gt_iff_lt, Nat.reduceLeDiff, Nat.lt_add_one, vvar_2, vzero_2, vknd_2, vsn_2, vvar_3, vzero_3, vknd_3, vsn_3, vvar_4, vzero_4, vknd_4, vsn_4, vvar_5, vzero_5, vknd_5, vsn_5, vsl_22, vkn_22, vvar_22, vzero_22, vbyt_22, vvar_57, vzero_57, vvar_85, vzero_85, vknd_85, vsn_85, vvar_87, vzero_87, vbld_87, vfld_87_0, vfld_87_1, vfld_87_2, get_set hjl, get_set0 hjl, set_again, hjl, Nat.zero_add]; try simp (disch := omega) only [wrap64]) | (with_reducible refine hK' _ ?_; clear hK' K') | (with_reducible refine hK _ ?_; clear hK K) | (with_reducible first | refine And.intro (And.intro rfl rfl) ?_ | refine And.intro (by omega) ?_) | (with_reducible refine And.intro (fun hg => ?_) (fun hg => ?_) <;> first | simp only [eq_false hg, rsB] | simp only [eq_true hg, rsB] | simp only [hg, rsB]) | (with_reducible first | refine And.intro rfl (And.intro rfl rfl) | refine thenQ_n ?_ | refine thenQ_exit ?_ | refine thenQ_ret ?_ | refine midQ_ret ?_ | refine midQ_exit ?_ | refine blockQ_same ?_ | refine blockQ_ne (by decide) ?_ | refine blockQ_ret ?_ | refine blockQ_n ?_ | refine AW.exit ?_ | refine AW.block ?_ | refine AW.cond_t rfl ?_ | refine AW.cond_f rfl ?_ | refine AW.cond_dec rfl (fun hc => ?_) (fun hc => ?_)) | (with_reducible refine AW.cond rfl (fun hc => ?_) (fun hc => ?_) <;> try simp only [Bool.not_eq_eq_eq_not, Bool.not_true, Bool.not_false, decide_eq_true_eq, decide_eq_false_iff_not] at hc) | (with_reducible first | refine AW.seq ?_ | refine AW.skip ?_ | refine AW.ret ?_ | refine And.intro ?_ ?_) | (with_reducible intro hg; first | simp only [eq_false hg, rsB] | simp only [eq_true hg, rsB]) | (with_reducible refine retQ_drop ?_; simp only [vRes, packRes, vLoad, vPart, lk, cond, Nat.reduceBEq, get_bl, getD_zero, getD_succ, true_and, List.length_cons, List.length_nil, Nat.reduceAdd, Nat.reduceLT, Nat.reduceLeDiff, List.take_succ_cons, List.take_zero, List.drop_succ_cons, List.drop_zero, vvar_2, vzero_2, vknd_2, vsn_2, vvar_3, vzero_3, vknd_3, vsn_3, vvar_4, vzero_4, vknd_4, vsn_4, vvar_5, vzero_5, vknd_5, vsn_5, vsl_22, vkn_22, vvar_22, vzero_22, vbyt_22, vvar_57, vzero_57, vvar_85, vzero_85, vknd_85, vsn_85, vvar_87, vzero_87, vbld_87, vfld_87_0, vfld_87_1, vfld_87_2]) )
  all_goals refine ⟨_, _, FinOk.base, _, _, ?_, rfl, rfl⟩
  all_goals first | exact h0 | exact h1 _ | exact wrapAnd _ | omega
theorem next110_ac (cs : List Int) (z : Int × Int) (hx : cs.length ≤ 1000000000) (hu : U8 cs) (hz : 0 ≤ z.1 ∧ z.1 ≤ 1000000000) (l : List ABox) (j : Nat) (hj : l[j]? = some (srcBox cs z)) (H : List ABox) (hH : BaseLt H.length H) :
    AC Tryd.prog 48 [.ptr 1 (H.length + j) 0 0] (H ++ l) (fun r H' => ∃ x : Int × Int, (0 ≤ x.1 ∧ x.1 ≤ 255) ∧ r = .v (.int .i64 (x.1)) ∧ H' = H ++ l.set j (srcBox cs (z.1 + 1, x.2))) :=
  (next110e_ac cs z hx hu hz l j hj H hH).mono fun r H' ⟨a, b, h⟩ => ⟨(a, b), h⟩
/-- A number below n, drawn; at most one byte is read. -/
theorem pick86e_ac (cs : List Int) (z : Int × Int) (n : Int) (hn : 1 ≤ n ∧ n ≤ 200) (hx : cs.length ≤ 1000000000) (hu : U8 cs) (hz : 0 ≤ z.1 ∧ z.1 ≤ 1000000000) (l : List ABox) (j : Nat) (hj : l[j]? = some (srcBox cs z)) (H : List ABox) (hH : BaseLt H.length H) :
    AC Tryd.prog 26 [.ptr 1 (H.length + j) 0 0, .v (.int .i64 (n))] (H ++ l) (fun r H' => ∃ x : Int × Int × Int, ((0 ≤ x.1 ∧ x.1 < n) ∧ z.1 ≤ x.2.1 ∧ x.2.1 ≤ z.1 + 1) ∧ r = .v (.int .i64 (x.1)) ∧ H' = H ++ l.set j (srcBox cs x.2)) := by
  have hc200 : ¬ 200 < n := by omega
  have hself : l.set j (srcBox cs (z.1, z.2)) = l := set_same hj
  by_cases hc1 : n ≤ 1
  ·
    refine AC.enter envOk Tryd.func26 rfl (by decide) Tryd.ntmps26 Tryd.results26 (by simp) fun hB => ?_
    repeat' (first | (with_reducible first | refine AW.sreg envOk fun K hK => ?_ | refine AW.region envOk fun K hK => ?_ | refine vcL_nil ?_) | (with_reducible (first | refine vcL_cons fun K' hK' => ?_); simp only [isC, Bool.false_or, Bool.or_true, ↓reduceDIte, List.take_length, Nat.le_refl, List.drop_zero, vGuard, undef, Bool.not_eq_eq_eq_not, dstOk, vcOp, vcF, isPure, putS, vcCall, St.ev, St.put, lk, AVal.ofVal, initS, Nat.reduceLT, true_and, and_true, vBin, vPick, vPart, vLoad, AVal.flat, AVal.cell, cellsOk, setRange, ETy.enc, ETy.dec, ETy.sz, ETy.d, cond, Nat.reduceBEq, Nat.reduceAdd, Int.toNat_natCast, List.length_set, List.length_append, List.length_replicate, List.length_take, Nat.reduceSub, Nat.reduceEqDiff, get_loc, setBox_loc, next_eq, List.length_cons, List.length_nil, List.map_cons, List.map_nil, List.append_nil, List.nil_append, List.cons_append, List.set_cons_zero, List.set_cons_succ, getD_zero, getD_succ, List.getElem?_cons_succ, List.getElem?_cons_zero, List.take_succ_cons, List.take_zero, List.drop_succ_cons, List.all_cons, List.all_nil, Bool.and_true, Bool.true_and, Option.bind_some, Option.map_some, Option.map_none, decide_eq_true_eq, decide_eq_false_iff_not, ne_eq, Bool.not_eq_true, Bool.not_eq_false, Decidable.not_not, not_true_eq_false, not_false_eq_true, forall_const, false_implies, Bool.true_eq_false, Bool.false_eq_true, reduceCtorEq, decide_true, decide_false, Bool.not_true, Bool.not_false, if_true, if_false, Nat.zero_add, Nat.lt_irrefl, Value.oneCell', gt_iff_lt, Nat.reduceLeDiff, Nat.lt_add_one, vvar_2, vzero_2, vknd_2, vsn_2, vvar_4, vzero_4, vknd_4, vsn_4, vvar_57, vzero_57, hc200]; try simp (disch := omega) only [wrap64]) | (with_reducible refine hK' _ ?_; clear hK' K') | (with_reducible refine hK _ ?_; clear hK K) | (with_reducible first | refine And.intro (And.intro rfl rfl) ?_ | refine And.intro (by omega) ?_) | (with_reducible refine And.intro (fun hg => ?_) (fun hg => ?_) <;> first | simp only [eq_false hg, rsB] | simp only [eq_true hg, rsB] | simp only [hg, rsB]) | (with_reducible first | refine And.intro rfl (And.intro rfl rfl) | refine thenQ_n ?_ | refine thenQ_exit ?_ | refine thenQ_ret ?_ | refine midQ_ret ?_ | refine midQ_exit ?_ | refine blockQ_same ?_ | refine blockQ_ne (by decide) ?_ | refine blockQ_ret ?_ | refine blockQ_n ?_ | refine AW.exit ?_ | refine AW.block ?_ | refine AW.cond_t rfl ?_ | refine AW.cond_f rfl ?_ | refine AW.cond_dec rfl (fun hc => ?_) (fun hc => ?_)) | (with_reducible refine AW.cond rfl (fun hc => ?_) (fun hc => ?_) <;> try simp only [Bool.not_eq_eq_eq_not, Bool.not_true, Bool.not_false, decide_eq_true_eq, decide_eq_false_iff_not] at hc) | (with_reducible first | refine AW.seq ?_ | refine AW.skip ?_ | refine AW.ret ?_ | refine And.intro ?_ ?_) | (with_reducible intro hg; first | simp only [eq_false hg, rsB] | simp only [eq_true hg, rsB]) | (with_reducible refine retQ_drop ?_; simp only [vRes, packRes, vLoad, vPart, lk, cond, Nat.reduceBEq, get_loc, getD_zero, getD_succ, true_and, List.length_cons, List.length_nil, Nat.reduceAdd, Nat.reduceLT, Nat.reduceLeDiff, List.take_succ_cons, List.take_zero, List.drop_succ_cons, List.drop_zero, vvar_2, vzero_2, vknd_2, vsn_2, vvar_4, vzero_4, vknd_4, vsn_4, vvar_57, vzero_57]) )
    all_goals first
      | (exfalso; omega)
      | skip
    refine ⟨_, _, FinOk.base, (0, z.1, z.2), ⟨⟨by simp only; omega, by simp only; omega⟩, by simp only; omega, by simp only; omega⟩, rfl, ?_⟩
    rw [hself]
  ·
    refine AC.enter envOk Tryd.func26 rfl (by decide) Tryd.ntmps26 Tryd.results26 (by simp) fun hB => ?_
    repeat' (first | (with_reducible first | refine AW.sreg envOk fun K hK => ?_ | refine AW.region envOk fun K hK => ?_ | refine vcL_nil ?_) | (with_reducible (first | refine vcL_cons fun K' hK' => ?_); simp only [isC, Bool.false_or, Bool.or_true, ↓reduceDIte, List.take_length, Nat.le_refl, List.drop_zero, vGuard, undef, Bool.not_eq_eq_eq_not, dstOk, vcOp, vcF, isPure, putS, vcCall, St.ev, St.put, lk, AVal.ofVal, initS, Nat.reduceLT, true_and, and_true, vBin, vPick, vPart, vLoad, AVal.flat, AVal.cell, cellsOk, setRange, ETy.enc, ETy.dec, ETy.sz, ETy.d, cond, Nat.reduceBEq, Nat.reduceAdd, Int.toNat_natCast, List.length_set, List.length_append, List.length_replicate, List.length_take, Nat.reduceSub, Nat.reduceEqDiff, get_loc, setBox_loc, next_eq, List.length_cons, List.length_nil, List.map_cons, List.map_nil, List.append_nil, List.nil_append, List.cons_append, List.set_cons_zero, List.set_cons_succ, getD_zero, getD_succ, List.getElem?_cons_succ, List.getElem?_cons_zero, List.take_succ_cons, List.take_zero, List.drop_succ_cons, List.all_cons, List.all_nil, Bool.and_true, Bool.true_and, Option.bind_some, Option.map_some, Option.map_none, decide_eq_true_eq, decide_eq_false_iff_not, ne_eq, Bool.not_eq_true, Bool.not_eq_false, Decidable.not_not, not_true_eq_false, not_false_eq_true, forall_const, false_implies, Bool.true_eq_false, Bool.false_eq_true, reduceCtorEq, decide_true, decide_false, Bool.not_true, Bool.not_false, if_true, if_false, Nat.zero_add, Nat.lt_irrefl, Value.oneCell', gt_iff_lt, Nat.reduceLeDiff, Nat.lt_add_one, vvar_2, vzero_2, vknd_2, vsn_2, vvar_4, vzero_4, vknd_4, vsn_4, vvar_57, vzero_57, hc200, hc1]; try simp (disch := omega) only [wrap64]) | (with_reducible refine hK' _ ?_; clear hK' K') | (with_reducible refine hK _ ?_; clear hK K) | ((with_reducible show vCall _ (AVal.fn 48 _) _ _ _); refine vCall_exB (next110_ac cs z hx hu hz l j hj H hH) (fun x => List.length_set) (fun x hx0 => ?_)) | (with_reducible first | refine And.intro (And.intro rfl rfl) ?_ | refine And.intro (by omega) ?_) | (with_reducible refine And.intro (fun hg => ?_) (fun hg => ?_) <;> first | simp only [eq_false hg, rsB] | simp only [eq_true hg, rsB] | simp only [hg, rsB]) | (with_reducible first | refine And.intro rfl (And.intro rfl rfl) | refine thenQ_n ?_ | refine thenQ_exit ?_ | refine thenQ_ret ?_ | refine midQ_ret ?_ | refine midQ_exit ?_ | refine blockQ_same ?_ | refine blockQ_ne (by decide) ?_ | refine blockQ_ret ?_ | refine blockQ_n ?_ | refine AW.exit ?_ | refine AW.block ?_ | refine AW.cond_t rfl ?_ | refine AW.cond_f rfl ?_ | refine AW.cond_dec rfl (fun hc => ?_) (fun hc => ?_)) | (with_reducible refine AW.cond rfl (fun hc => ?_) (fun hc => ?_) <;> try simp only [Bool.not_eq_eq_eq_not, Bool.not_true, Bool.not_false, decide_eq_true_eq, decide_eq_false_iff_not] at hc) | (with_reducible first | refine AW.seq ?_ | refine AW.skip ?_ | refine AW.ret ?_ | refine And.intro ?_ ?_) | (with_reducible intro hg; first | simp only [eq_false hg, rsB] | simp only [eq_true hg, rsB]) | (with_reducible refine retQ_drop ?_; simp only [vRes, packRes, vLoad, vPart, lk, cond, Nat.reduceBEq, get_loc, getD_zero, getD_succ, true_and, List.length_cons, List.length_nil, Nat.reduceAdd, Nat.reduceLT, Nat.reduceLeDiff, List.take_succ_cons, List.take_zero, List.drop_succ_cons, List.drop_zero, vvar_2, vzero_2, vknd_2, vsn_2, vvar_4, vzero_4, vknd_4, vsn_4, vvar_57, vzero_57]) )
    all_goals first
      | (exfalso; omega)
      | skip
    have hr : 0 ≤ x.1.tmod n ∧ x.1.tmod n < n := by
      rw [Int.tmod_eq_emod_of_nonneg (by omega)]
      exact ⟨Int.emod_nonneg _ (by omega), Int.emod_lt_of_pos _ (by omega)⟩
    exact ⟨_, _, FinOk.base, (x.1.tmod n, z.1 + 1, x.2), ⟨hr, by simp only; omega, by simp only; omega⟩, rfl, rfl⟩
theorem one22_ac (cs : List Int) (z : Int × Int) (n : Int) (hn : 1 ≤ n ∧ n ≤ 200) (hx : cs.length ≤ 1000000000) (hu : U8 cs) (hz : 0 ≤ z.1 ∧ z.1 ≤ 1000000000) (l : List ABox) (j : Nat) (hj : l[j]? = some (srcBox cs z)) (H : List ABox) (hH : BaseLt H.length H) :
    AC Tryd.prog 37 [.ptr 1 (H.length + j) 0 0, .v (.int .i64 (n))] (H ++ l) (fun r H' => ∃ x : Bool × Int × Int, (z.1 ≤ x.2.1 ∧ x.2.1 ≤ z.1 + 1) ∧ r = .v (.bool (x.1)) ∧ H' = H ++ l.set j (srcBox cs x.2)) := by
  refine AC.enter envOk Tryd.func37 rfl (by decide) Tryd.ntmps37 Tryd.results37 (by simp) fun hB => ?_
  repeat' (first | (with_reducible first | refine AW.sreg envOk fun K hK => ?_ | refine AW.region envOk fun K hK => ?_ | refine vcL_nil ?_) | (with_reducible (first | refine vcL_cons fun K' hK' => ?_); simp only [isC, Bool.false_or, Bool.or_true, ↓reduceDIte, List.take_length, Nat.le_refl, List.drop_zero, vGuard, undef, Bool.not_eq_eq_eq_not, dstOk, vcOp, vcF, isPure, putS, vcCall, St.ev, St.put, lk, AVal.ofVal, initS, Nat.reduceLT, true_and, and_true, vBin, vPart, vLoad, AVal.flat, AVal.cell, cellsOk, setRange, ETy.enc, ETy.dec, ETy.sz, ETy.d, cond, Nat.reduceBEq, Nat.reduceAdd, Int.toNat_natCast, List.length_set, List.length_append, List.length_replicate, List.length_take, Nat.reduceSub, Nat.reduceEqDiff, get_loc, setBox_loc, next_eq, List.length_cons, List.length_nil, List.map_cons, List.map_nil, List.append_nil, List.nil_append, List.cons_append, List.set_cons_zero, List.set_cons_succ, getD_zero, getD_succ, List.getElem?_cons_succ, List.getElem?_cons_zero, List.take_succ_cons, List.take_zero, List.drop_succ_cons, List.all_cons, List.all_nil, Bool.and_true, Bool.true_and, Option.bind_some, Option.map_some, Option.map_none, decide_eq_true_eq, decide_eq_false_iff_not, ne_eq, Bool.not_eq_true, Bool.not_eq_false, Decidable.not_not, not_true_eq_false, not_false_eq_true, forall_const, false_implies, Bool.true_eq_false, Bool.false_eq_true, reduceCtorEq, decide_true, decide_false, Bool.not_true, Bool.not_false, if_true, if_false, Nat.zero_add, Nat.lt_irrefl, Value.oneCell', gt_iff_lt, Nat.reduceLeDiff, Nat.lt_add_one, vvar_2, vzero_2, vknd_2, vsn_2, vvar_4, vzero_4, vknd_4, vsn_4, vvar_57, vzero_57]; try simp (disch := omega) only [wrap64]) | (with_reducible refine hK' _ ?_; clear hK' K') | (with_reducible refine hK _ ?_; clear hK K) | ((with_reducible show vCall _ (AVal.fn 26 _) _ _ _); refine vCall_exB (pick86e_ac cs z n hn hx hu hz l j hj H hH) (fun x => List.length_set) (fun x hx0 => ?_)) | (with_reducible first | refine And.intro (And.intro rfl rfl) ?_ | refine And.intro (by omega) ?_) | (with_reducible refine And.intro (fun hg => ?_) (fun hg => ?_) <;> first | simp only [eq_false hg, rsB] | simp only [eq_true hg, rsB] | simp only [hg, rsB]) | (with_reducible first | refine And.intro rfl (And.intro rfl rfl) | refine thenQ_n ?_ | refine thenQ_exit ?_ | refine thenQ_ret ?_ | refine midQ_ret ?_ | refine midQ_exit ?_ | refine blockQ_same ?_ | refine blockQ_ne (by decide) ?_ | refine blockQ_ret ?_ | refine blockQ_n ?_ | refine AW.exit ?_ | refine AW.block ?_ | refine AW.cond_t rfl ?_ | refine AW.cond_f rfl ?_ | refine AW.cond_dec rfl (fun hc => ?_) (fun hc => ?_)) | (with_reducible refine AW.cond rfl (fun hc => ?_) (fun hc => ?_) <;> try simp only [Bool.not_eq_eq_eq_not, Bool.not_true, Bool.not_false, decide_eq_true_eq, decide_eq_false_iff_not] at hc) | (with_reducible first | refine AW.seq ?_ | refine AW.skip ?_ | refine AW.ret ?_ | refine And.intro ?_ ?_) | (with_reducible intro hg; first | simp only [eq_false hg, rsB] | simp only [eq_true hg, rsB]) | (with_reducible refine retQ_drop ?_; simp only [vRes, packRes, vLoad, vPart, lk, cond, Nat.reduceBEq, get_loc, getD_zero, getD_succ, true_and, List.length_cons, List.length_nil, Nat.reduceAdd, Nat.reduceLT, Nat.reduceLeDiff, List.take_succ_cons, List.take_zero, List.drop_succ_cons, List.drop_zero, vvar_2, vzero_2, vknd_2, vsn_2, vvar_4, vzero_4, vknd_4, vsn_4, vvar_57, vzero_57]) )
  exact ⟨_, _, FinOk.base, (_, x.2), hx0.2, rfl, rfl⟩
theorem U8.of {cs : List Int} (h : ∀ y ∈ cs, wfI .u8 y) : U8 cs := fun n => by
  by_cases hn : n < cs.length
  · have hm : cs.getD n 0 ∈ cs := by
      simp only [List.getD, List.getElem?_eq_getElem hn, Option.getD_some]; exact List.getElem_mem hn
    have := h _ hm
    unfold wfI at this
    simp only [Lit.wf, Bool.and_eq_true, decide_eq_true_eq] at this
    have e1 : IntKind.u8.min = 0 := rfl
    have e2 : IntKind.u8.max = 255 := rfl
    omega
  · have : cs.getD n 0 = 0 := by simp [List.getD, List.getElem?_eq_none (Nat.le_of_not_lt hn)]
    omega
end Go.Proofs.YtmkcahfhnehanaaDoor
end
section
set_option linter.unusedSimpArgs false
set_option linter.unusedVariables false
set_option maxHeartbeats 4000000
namespace Go.Proofs.YtmkcahfhnehanaaDoor
open Go.Eng
/-- A row of a drawn maze: its cells, and the first one of the first row is open. -/
def DrawnRow (w : Nat) (y : Nat) (r : List Int) : Prop := r.length = w ∧ (∀ x, x < r.length → 0 ≤ r.getD x 0 ∧ r.getD x 0 ≤ 9) ∧ (y = 0 → 0 < r.length → 0 < r.getD 0 0)
theorem DrawnRow.snoc {y : Nat} {r : List Int} (h : DrawnRow r.length y r) {c : Int} (hc : 0 ≤ c ∧ c ≤ 9) (h0 : (r.length : Int) + y = 0 → 0 < c) : DrawnRow (r ++ [c]).length y (r ++ [c]) := by
  obtain ⟨_, h2, h3⟩ := h
  have gl : (r ++ [c]).getD r.length 0 = c := by simp [List.getD]
  have gi : ∀ j, j < r.length → (r ++ [c]).getD j 0 = r.getD j 0 := fun j hj => by simp [List.getD, List.getElem?_append_left hj]
  refine ⟨rfl, fun x hx => ?_, fun hy _ => ?_⟩
  · by_cases e : x < r.length
    · rw [gi x e]; exact h2 x e
    · have : x = r.length := by simp at hx; omega
      rw [this, gl]; exact hc
  · by_cases e : 0 < r.length
    · rw [gi 0 e]; exact h3 hy e
    · have e0 : r.length = 0 := by omega
      have := gl
      rw [e0] at this
      rw [this]; exact h0 (by omega)
/-- The rows of a drawn maze. -/
def DrawnTo (w : Nat) (m : Mz) : Prop := ∀ y, y < m.length → DrawnRow w y (m.getD y [])
theorem DrawnTo.nil {w : Nat} : DrawnTo w [] := fun y hy => by simp at hy
theorem DrawnTo.snoc {w : Nat} {m : Mz} (h : DrawnTo w m) {r : List Int} (hr : DrawnRow w m.length r) : DrawnTo w (m ++ [r]) := fun y hy => by
  by_cases e : y < m.length
  · rw [show (m ++ [r]).getD y [] = m.getD y [] by simp [List.getD, List.getElem?_append_left e]]; exact h y e
  · have : y = m.length := by simp at hy; omega
    subst this
    rw [show (m ++ [r]).getD m.length [] = r by simp [List.getD]]; exact hr
/-- A small valid maze, whose first cell is open. -/
structure SmallMz (m : Mz) : Prop where
  ok : MzOk m
  h : m.length ≤ 5
  w : width m ≤ 5
  first : OpenAt m (0, 0)
theorem DrawnTo.small {w : Nat} {m : Mz} (h : DrawnTo w m) (hw : 1 ≤ w ∧ w ≤ 5) (hl : 1 ≤ m.length ∧ m.length ≤ 5) : SmallMz m := by
  have h0 := h 0 (by omega)
  have hwd : width m = w := h0.1
  refine ⟨⟨⟨hl.1, by omega⟩, ⟨by omega, by omega⟩, fun y hy => ?_⟩, hl.2, by omega, ⟨⟨⟨by simp only; omega, by simp only; omega⟩, by simp only; omega, by simp only; omega⟩, h0.2.2 rfl (by have := h0.1; omega)⟩⟩
  have hy' := h y hy
  exact ⟨by rw [hwd]; exact hy'.1, hy'.2.1⟩
theorem SmallMz.fits {m : Mz} (h : SmallMz m) : Fits 1048576 m := by
  refine ⟨by have := h.h; omega, fun i => ?_⟩
  by_cases e : i < m.length
  · have := (h.ok.2.2 i e).1
    have := h.w
    omega
  · rw [getD_none e]; simp
noncomputable def rmO (cs : List Int) (H : List ABox) (w h : Nat) (ev : Bool) (z : Int × Int) (m : Mz) (y : Nat) : St := (⟨59, [(2, .ptr 1 (H.length + 0) 0 0), (3, .ptr 1 (H.length + 1) 0 0), (4, .ptr 1 (H.length + 3) 0 0), (5, .v (.int .i64 (1 + (w : Int)))), (6, .v (.int .i64 (1 + (h : Int)))), (7, .v (.bool (ev))), (8, .v (.int .i64 ((y : Int))))], H, [.box false [.v (.slice none 0 0)], srcBox cs z, .row false (.sli .i64) m, .box false [.sl 1 (H.length + 2) 0 m.length]]⟩ : St)
noncomputable def rmI2 (cs : List Int) (H : List ABox) (w h : Nat) (ev : Bool) (z : Int × Int) (m : Mz) (y : Nat) (r : List Int) (x : Nat) : St := (⟨59, [(2, .ptr 1 (H.length + 0) 0 0), (3, .ptr 1 (H.length + 1) 0 0), (4, .ptr 1 (H.length + 3) 0 0), (5, .v (.int .i64 (1 + (w : Int)))), (6, .v (.int .i64 (1 + (h : Int)))), (7, .v (.bool (ev))), (8, .v (.int .i64 ((y : Int)))), (9, .sl 1 (H.length + 4) 0 (r.length)), (10, .v (.int .i64 ((x : Int))))], H, [.box false [.v (.slice none 0 0)], srcBox cs z, .row false (.sli .i64) m, .box false [.sl 1 (H.length + 2) 0 m.length], .row false (.int .i64) (r)]⟩ : St)
theorem maze7_ac (cs : List Int) (hx : cs.length ≤ 1000000000) (hu : U8 cs) (H : List ABox) : AC Tryd.prog 16 [.rd (.int .u8) cs] H (fun r H' => ∃ m : Mz, SmallMz m ∧ r = .agg [.rd (.sli .i64) (m)] ∧ H' = H) := by
  refine AC.enter envOk Tryd.func16 rfl (by decide) Tryd.ntmps16 Tryd.results16 (by simp) fun hB => ?_
  repeat' (first | (with_reducible first | refine AW.sreg envOk fun K hK => ?_ | refine AW.region envOk fun K hK => ?_ | refine vcL_nil ?_) | (with_reducible (first | refine vcL_cons fun K' hK' => ?_); simp only [isC, Bool.false_or, Bool.or_true, vAppend, elems, ↓reduceDIte, List.take_length, Nat.le_refl, List.drop_zero, vGuard, undef, Bool.not_eq_eq_eq_not, dstOk, vcOp, vcF, isPure, putS, vcCall, St.ev, St.put, lk, AVal.ofVal, initS, Nat.reduceLT, true_and, and_true, vBin, vUn, vPick, vPart, vLoad, vStore, vFldA, vAlloc, vBuild, vBuildSl, partsA, fillA, decAll, AVal.flat, AVal.cell, cellsOk, setRange, ETy.enc, ETy.dec, ETy.sz, ETy.d, cond, Nat.reduceBEq, Nat.reduceAdd, Int.toNat_natCast, List.length_set, List.length_append, List.length_replicate, List.length_take, Nat.reduceSub, Nat.reduceEqDiff, get_loc, setBox_loc, next_eq, List.length_cons, List.length_nil, List.map_cons, List.map_nil, List.append_nil, List.nil_append, List.cons_append, List.set_cons_zero, List.set_cons_succ, getD_zero, getD_succ, List.getElem?_cons_succ, List.getElem?_cons_zero, List.take_succ_cons, List.take_zero, List.drop_succ_cons, List.all_cons, List.all_nil, Bool.and_true, Bool.true_and, Option.bind_some, Option.map_some, Option.map_none, decide_eq_true_eq, decide_eq_false_iff_not, ne_eq, Bool.not_eq_true, Bool.not_eq_false, Decidable.not_not, not_true_eq_false, not_false_eq_true, forall_const, false_implies, Bool.true_eq_false, Bool.false_eq_true, reduceCtorEq, decide_true, decide_false, Bool.not_true, Bool.not_false, if_true, if_false, Nat.zero_add, Nat.lt_irrefl, Value.oneCell', gt_iff_lt, Nat.reduceLeDiff, Nat.lt_add_one, vSealSl, vvar_1, vzero_1, vvar_2, vzero_2, vknd_2, vsn_2, vvar_4, vzero_4, vknd_4, vsn_4, vsl_22, vkn_22, vvar_22, vzero_22, vbyt_22, vsl_24, vkn_24, vvar_24, vzero_24, vsl_41, vkn_41, vvar_41, vzero_41, vvar_43, vzero_43, vbld_43, vvar_57, vzero_57, vfld_43_0]; try simp (disch := omega) only [wrap64]) | (with_reducible refine hK' _ ?_; clear hK' K') | (with_reducible refine hK _ ?_; clear hK K) | ((with_reducible show vCall _ (AVal.fn 25 _) _ _ _); refine vCall_newE (from85_ac _ _) (by simp only [List.length_append, List.length_cons, List.length_nil, Nat.reduceAdd]; rfl) ?_) | ((with_reducible show vCall _ (AVal.fn 26 _) _ _ _); refine vCall_ex (pick86e_ac cs (0, 0) 5 (by omega) hx hu (by simp only; omega) _ 1 rfl _ hB) (fun w hw => ?_)) | (with_reducible first | refine And.intro (And.intro rfl rfl) ?_ | refine And.intro (by omega) ?_) | (with_reducible refine And.intro (fun hg => ?_) (fun hg => ?_) <;> first | simp only [eq_false hg, rsB] | simp only [eq_true hg, rsB] | simp only [hg, rsB]) | (with_reducible first | refine And.intro rfl (And.intro rfl rfl) | refine thenQ_n ?_ | refine thenQ_exit ?_ | refine thenQ_ret ?_ | refine midQ_ret ?_ | refine midQ_exit ?_ | refine blockQ_same ?_ | refine blockQ_ne (by decide) ?_ | refine blockQ_ret ?_ | refine blockQ_n ?_ | refine AW.exit ?_ | refine AW.block ?_ | refine AW.cond_t rfl ?_ | refine AW.cond_f rfl ?_ | refine AW.cond_dec rfl (fun hc => ?_) (fun hc => ?_)) | (with_reducible refine AW.cond rfl (fun hc => ?_) (fun hc => ?_) <;> try simp only [Bool.not_eq_eq_eq_not, Bool.not_true, Bool.not_false, decide_eq_true_eq, decide_eq_false_iff_not] at hc) | (with_reducible first | refine AW.seq ?_ | refine AW.skip ?_ | refine AW.ret ?_ | refine And.intro ?_ ?_) | (with_reducible intro hg; first | simp only [eq_false hg, rsB] | simp only [eq_true hg, rsB]) | (with_reducible refine retQ_drop ?_; simp only [vRes, packRes, vLoad, vPart, lk, cond, Nat.reduceBEq, get_loc, getD_zero, getD_succ, true_and, List.length_cons, List.length_nil, Nat.reduceAdd, Nat.reduceLT, Nat.reduceLeDiff, List.take_succ_cons, List.take_zero, List.drop_succ_cons, List.drop_zero, vvar_1, vzero_1, vvar_2, vzero_2, vknd_2, vsn_2, vvar_4, vzero_4, vknd_4, vsn_4, vsl_22, vkn_22, vvar_22, vzero_22, vbyt_22, vsl_24, vkn_24, vvar_24, vzero_24, vsl_41, vkn_41, vvar_41, vzero_41, vvar_43, vzero_43, vbld_43, vvar_57, vzero_57, vfld_43_0]) )
  obtain ⟨w0, z1, sd1⟩ := w
  simp only at hw
  obtain ⟨w1, rfl⟩ := Int.eq_ofNat_of_zero_le hw.1.1
  repeat' (first | (with_reducible first | refine AW.sreg envOk fun K hK => ?_ | refine AW.region envOk fun K hK => ?_ | refine vcL_nil ?_) | (with_reducible (first | refine vcL_cons fun K' hK' => ?_); simp only [isC, Bool.false_or, Bool.or_true, vAppend, elems, ↓reduceDIte, List.take_length, Nat.le_refl, List.drop_zero, vGuard, undef, Bool.not_eq_eq_eq_not, dstOk, vcOp, vcF, isPure, putS, vcCall, St.ev, St.put, lk, AVal.ofVal, initS, Nat.reduceLT, true_and, and_true, vBin, vUn, vPick, vPart, vLoad, vStore, vFldA, vAlloc, vBuild, vBuildSl, partsA, fillA, decAll, AVal.flat, AVal.cell, cellsOk, setRange, ETy.enc, ETy.dec, ETy.sz, ETy.d, cond, Nat.reduceBEq, Nat.reduceAdd, Int.toNat_natCast, List.length_set, List.length_append, List.length_replicate, List.length_take, Nat.reduceSub, Nat.reduceEqDiff, get_loc, setBox_loc, next_eq, List.length_cons, List.length_nil, List.map_cons, List.map_nil, List.append_nil, List.nil_append, List.cons_append, List.set_cons_zero, List.set_cons_succ, getD_zero, getD_succ, List.getElem?_cons_succ, List.getElem?_cons_zero, List.take_succ_cons, List.take_zero, List.drop_succ_cons, List.all_cons, List.all_nil, Bool.and_true, Bool.true_and, Option.bind_some, Option.map_some, Option.map_none, decide_eq_true_eq, decide_eq_false_iff_not, ne_eq, Bool.not_eq_true, Bool.not_eq_false, Decidable.not_not, not_true_eq_false, not_false_eq_true, forall_const, false_implies, Bool.true_eq_false, Bool.false_eq_true, reduceCtorEq, decide_true, decide_false, Bool.not_true, Bool.not_false, if_true, if_false, Nat.zero_add, Nat.lt_irrefl, Value.oneCell', gt_iff_lt, Nat.reduceLeDiff, Nat.lt_add_one, vSealSl, vvar_1, vzero_1, vvar_2, vzero_2, vknd_2, vsn_2, vvar_4, vzero_4, vknd_4, vsn_4, vsl_22, vkn_22, vvar_22, vzero_22, vbyt_22, vsl_24, vkn_24, vvar_24, vzero_24, vsl_41, vkn_41, vvar_41, vzero_41, vvar_43, vzero_43, vbld_43, vvar_57, vzero_57, vfld_43_0]; try simp (disch := omega) only [wrap64]) | (with_reducible refine hK' _ ?_; clear hK' K') | (with_reducible refine hK _ ?_; clear hK K) | ((with_reducible show vCall _ (AVal.fn 26 _) _ _ _); refine vCall_ex (pick86e_ac cs (z1, sd1) 5 (by omega) hx hu (by simp only; omega) _ 1 rfl _ hB) (fun h hh => ?_)) | (with_reducible first | refine And.intro (And.intro rfl rfl) ?_ | refine And.intro (by omega) ?_) | (with_reducible refine And.intro (fun hg => ?_) (fun hg => ?_) <;> first | simp only [eq_false hg, rsB] | simp only [eq_true hg, rsB] | simp only [hg, rsB]) | (with_reducible first | refine And.intro rfl (And.intro rfl rfl) | refine thenQ_n ?_ | refine thenQ_exit ?_ | refine thenQ_ret ?_ | refine midQ_ret ?_ | refine midQ_exit ?_ | refine blockQ_same ?_ | refine blockQ_ne (by decide) ?_ | refine blockQ_ret ?_ | refine blockQ_n ?_ | refine AW.exit ?_ | refine AW.block ?_ | refine AW.cond_t rfl ?_ | refine AW.cond_f rfl ?_ | refine AW.cond_dec rfl (fun hc => ?_) (fun hc => ?_)) | (with_reducible refine AW.cond rfl (fun hc => ?_) (fun hc => ?_) <;> try simp only [Bool.not_eq_eq_eq_not, Bool.not_true, Bool.not_false, decide_eq_true_eq, decide_eq_false_iff_not] at hc) | (with_reducible first | refine AW.seq ?_ | refine AW.skip ?_ | refine AW.ret ?_ | refine And.intro ?_ ?_) | (with_reducible intro hg; first | simp only [eq_false hg, rsB] | simp only [eq_true hg, rsB]) | (with_reducible refine retQ_drop ?_; simp only [vRes, packRes, vLoad, vPart, lk, cond, Nat.reduceBEq, get_loc, getD_zero, getD_succ, true_and, List.length_cons, List.length_nil, Nat.reduceAdd, Nat.reduceLT, Nat.reduceLeDiff, List.take_succ_cons, List.take_zero, List.drop_succ_cons, List.drop_zero, vvar_1, vzero_1, vvar_2, vzero_2, vknd_2, vsn_2, vvar_4, vzero_4, vknd_4, vsn_4, vsl_22, vkn_22, vvar_22, vzero_22, vbyt_22, vsl_24, vkn_24, vvar_24, vzero_24, vsl_41, vkn_41, vvar_41, vzero_41, vvar_43, vzero_43, vbld_43, vvar_57, vzero_57, vfld_43_0]) )
  obtain ⟨h0, z2, sd2⟩ := h
  simp only at hh
  obtain ⟨h1, rfl⟩ := Int.eq_ofNat_of_zero_le hh.1.1
  repeat' (first | (with_reducible first | refine AW.sreg envOk fun K hK => ?_ | refine AW.region envOk fun K hK => ?_ | refine vcL_nil ?_) | (with_reducible (first | refine vcL_cons fun K' hK' => ?_); simp only [isC, Bool.false_or, Bool.or_true, vAppend, elems, ↓reduceDIte, List.take_length, Nat.le_refl, List.drop_zero, vGuard, undef, Bool.not_eq_eq_eq_not, dstOk, vcOp, vcF, isPure, putS, vcCall, St.ev, St.put, lk, AVal.ofVal, initS, Nat.reduceLT, true_and, and_true, vBin, vUn, vPick, vPart, vLoad, vStore, vFldA, vAlloc, vBuild, vBuildSl, partsA, fillA, decAll, AVal.flat, AVal.cell, cellsOk, setRange, ETy.enc, ETy.dec, ETy.sz, ETy.d, cond, Nat.reduceBEq, Nat.reduceAdd, Int.toNat_natCast, List.length_set, List.length_append, List.length_replicate, List.length_take, Nat.reduceSub, Nat.reduceEqDiff, get_loc, setBox_loc, next_eq, List.length_cons, List.length_nil, List.map_cons, List.map_nil, List.append_nil, List.nil_append, List.cons_append, List.set_cons_zero, List.set_cons_succ, getD_zero, getD_succ, List.getElem?_cons_succ, List.getElem?_cons_zero, List.take_succ_cons, List.take_zero, List.drop_succ_cons, List.all_cons, List.all_nil, Bool.and_true, Bool.true_and, Option.bind_some, Option.map_some, Option.map_none, decide_eq_true_eq, decide_eq_false_iff_not, ne_eq, Bool.not_eq_true, Bool.not_eq_false, Decidable.not_not, not_true_eq_false, not_false_eq_true, forall_const, false_implies, Bool.true_eq_false, Bool.false_eq_true, reduceCtorEq, decide_true, decide_false, Bool.not_true, Bool.not_false, if_true, if_false, Nat.zero_add, Nat.lt_irrefl, Value.oneCell', gt_iff_lt, Nat.reduceLeDiff, Nat.lt_add_one, vSealSl, vvar_1, vzero_1, vvar_2, vzero_2, vknd_2, vsn_2, vvar_4, vzero_4, vknd_4, vsn_4, vsl_22, vkn_22, vvar_22, vzero_22, vbyt_22, vsl_24, vkn_24, vvar_24, vzero_24, vsl_41, vkn_41, vvar_41, vzero_41, vvar_43, vzero_43, vbld_43, vvar_57, vzero_57, vfld_43_0]; try simp (disch := omega) only [wrap64]) | (with_reducible refine hK' _ ?_; clear hK' K') | (with_reducible refine hK _ ?_; clear hK K) | ((with_reducible show vCall _ (AVal.fn 37 _) _ _ _); refine vCall_ex (one22_ac cs (z2, sd2) 2 (by omega) hx hu (by simp only; omega) _ 1 rfl _ hB) (fun ev hev => ?_)) | (with_reducible first | refine And.intro (And.intro rfl rfl) ?_ | refine And.intro (by omega) ?_) | (with_reducible refine And.intro (fun hg => ?_) (fun hg => ?_) <;> first | simp only [eq_false hg, rsB] | simp only [eq_true hg, rsB] | simp only [hg, rsB]) | (with_reducible first | refine And.intro rfl (And.intro rfl rfl) | refine thenQ_n ?_ | refine thenQ_exit ?_ | refine thenQ_ret ?_ | refine midQ_ret ?_ | refine midQ_exit ?_ | refine blockQ_same ?_ | refine blockQ_ne (by decide) ?_ | refine blockQ_ret ?_ | refine blockQ_n ?_ | refine AW.exit ?_ | refine AW.block ?_ | refine AW.cond_t rfl ?_ | refine AW.cond_f rfl ?_ | refine AW.cond_dec rfl (fun hc => ?_) (fun hc => ?_)) | (with_reducible refine AW.cond rfl (fun hc => ?_) (fun hc => ?_) <;> try simp only [Bool.not_eq_eq_eq_not, Bool.not_true, Bool.not_false, decide_eq_true_eq, decide_eq_false_iff_not] at hc) | (with_reducible first | refine AW.seq ?_ | refine AW.skip ?_ | refine AW.ret ?_ | refine And.intro ?_ ?_) | (with_reducible intro hg; first | simp only [eq_false hg, rsB] | simp only [eq_true hg, rsB]) | (with_reducible refine retQ_drop ?_; simp only [vRes, packRes, vLoad, vPart, lk, cond, Nat.reduceBEq, get_loc, getD_zero, getD_succ, true_and, List.length_cons, List.length_nil, Nat.reduceAdd, Nat.reduceLT, Nat.reduceLeDiff, List.take_succ_cons, List.take_zero, List.drop_succ_cons, List.drop_zero, vvar_1, vzero_1, vvar_2, vzero_2, vknd_2, vsn_2, vvar_4, vzero_4, vknd_4, vsn_4, vsl_22, vkn_22, vvar_22, vzero_22, vbyt_22, vsl_24, vkn_24, vvar_24, vzero_24, vsl_41, vkn_41, vvar_41, vzero_41, vvar_43, vzero_43, vbld_43, vvar_57, vzero_57, vfld_43_0]) )
  obtain ⟨ev, z3, sd3⟩ := ev
  simp only at hev
  repeat' (first | (with_reducible first | refine AW.sreg envOk fun K hK => ?_ | refine AW.region envOk fun K hK => ?_ | refine vcL_nil ?_) | (with_reducible (first | refine vcL_cons fun K' hK' => ?_); simp only [isC, Bool.false_or, Bool.or_true, vAppend, elems, ↓reduceDIte, List.take_length, Nat.le_refl, List.drop_zero, vGuard, undef, Bool.not_eq_eq_eq_not, dstOk, vcOp, vcF, isPure, putS, vcCall, St.ev, St.put, lk, AVal.ofVal, initS, Nat.reduceLT, true_and, and_true, vBin, vUn, vPick, vPart, vLoad, vStore, vFldA, vAlloc, vBuild, vBuildSl, partsA, fillA, decAll, AVal.flat, AVal.cell, cellsOk, setRange, ETy.enc, ETy.dec, ETy.sz, ETy.d, cond, Nat.reduceBEq, Nat.reduceAdd, Int.toNat_natCast, List.length_set, List.length_append, List.length_replicate, List.length_take, Nat.reduceSub, Nat.reduceEqDiff, get_loc, setBox_loc, next_eq, List.length_cons, List.length_nil, List.map_cons, List.map_nil, List.append_nil, List.nil_append, List.cons_append, List.set_cons_zero, List.set_cons_succ, getD_zero, getD_succ, List.getElem?_cons_succ, List.getElem?_cons_zero, List.take_succ_cons, List.take_zero, List.drop_succ_cons, List.all_cons, List.all_nil, Bool.and_true, Bool.true_and, Option.bind_some, Option.map_some, Option.map_none, decide_eq_true_eq, decide_eq_false_iff_not, ne_eq, Bool.not_eq_true, Bool.not_eq_false, Decidable.not_not, not_true_eq_false, not_false_eq_true, forall_const, false_implies, Bool.true_eq_false, Bool.false_eq_true, reduceCtorEq, decide_true, decide_false, Bool.not_true, Bool.not_false, if_true, if_false, Nat.zero_add, Nat.lt_irrefl, Value.oneCell', gt_iff_lt, Nat.reduceLeDiff, Nat.lt_add_one, vSealSl, vvar_1, vzero_1, vvar_2, vzero_2, vknd_2, vsn_2, vvar_4, vzero_4, vknd_4, vsn_4, vsl_22, vkn_22, vvar_22, vzero_22, vbyt_22, vsl_24, vkn_24, vvar_24, vzero_24, vsl_41, vkn_41, vvar_41, vzero_41, vvar_43, vzero_43, vbld_43, vvar_57, vzero_57, vfld_43_0]; try simp (disch := omega) only [wrap64]) | (with_reducible refine hK' _ ?_; clear hK' K') | (with_reducible refine hK _ ?_; clear hK K) | (with_reducible first | refine And.intro (And.intro rfl rfl) ?_ | refine And.intro (by omega) ?_) | (with_reducible refine And.intro (fun hg => ?_) (fun hg => ?_) <;> first | simp only [eq_false hg, rsB] | simp only [eq_true hg, rsB] | simp only [hg, rsB]) | (with_reducible first | refine And.intro rfl (And.intro rfl rfl) | refine thenQ_n ?_ | refine thenQ_exit ?_ | refine thenQ_ret ?_ | refine midQ_ret ?_ | refine midQ_exit ?_ | refine blockQ_same ?_ | refine blockQ_ne (by decide) ?_ | refine blockQ_ret ?_ | refine blockQ_n ?_ | refine AW.exit ?_ | refine AW.block ?_ | refine AW.cond_t rfl ?_ | refine AW.cond_f rfl ?_ | refine AW.cond_dec rfl (fun hc => ?_) (fun hc => ?_)) | (with_reducible refine AW.cond rfl (fun hc => ?_) (fun hc => ?_) <;> try simp only [Bool.not_eq_eq_eq_not, Bool.not_true, Bool.not_false, decide_eq_true_eq, decide_eq_false_iff_not] at hc) | (with_reducible first | refine AW.seq ?_ | refine AW.skip ?_ | refine AW.ret ?_ | refine And.intro ?_ ?_) | (with_reducible intro hg; first | simp only [eq_false hg, rsB] | simp only [eq_true hg, rsB]) | (with_reducible refine retQ_drop ?_; simp only [vRes, packRes, vLoad, vPart, lk, cond, Nat.reduceBEq, get_loc, getD_zero, getD_succ, true_and, List.length_cons, List.length_nil, Nat.reduceAdd, Nat.reduceLT, Nat.reduceLeDiff, List.take_succ_cons, List.take_zero, List.drop_succ_cons, List.drop_zero, vvar_1, vzero_1, vvar_2, vzero_2, vknd_2, vsn_2, vvar_4, vzero_4, vknd_4, vsn_4, vsl_22, vkn_22, vvar_22, vzero_22, vbyt_22, vsl_24, vkn_24, vvar_24, vzero_24, vsl_41, vkn_41, vvar_41, vzero_41, vvar_43, vzero_43, vbld_43, vvar_57, vzero_57, vfld_43_0]) )
  all_goals first
    | (exfalso; omega)
    | skip
  refine AW.loop (fun q : Nat × Mz × Int × Int => rmO cs H w1 h1 ev q.2.2 q.2.1 q.1) (fun q => (q.1 ≤ 1 + h1 ∧ q.2.1.length = q.1 ∧ DrawnTo (1 + w1) q.2.1) ∧ 0 ≤ q.2.2.1 ∧ q.2.2.1 ≤ 3 + 10 * (q.1 : Int)) (fun q => 1 + h1 - q.1) (0, [], z3, sd3) ⟨⟨Nat.zero_le _, rfl, DrawnTo.nil⟩, by simp only; omega, by simp only; omega⟩ ?_ ?_
  · unfold rmO
    exact (Weak.sel [0, 1, 2, 3] hB (by decide) (by (repeat' (first | exact trivial | exact RenB.plRow rfl | exact RenB.dead _ | exact RenB.map _ _ | exact RenB.iter rfl | refine And.intro ?_ ?_ | (refine RenB.plBox ?_; (repeat' (first | exact Pl.v _ | exact Pl.junk | exact Pl.rd rfl _ | exact pl_nil | refine pl_cons ?_ ?_ | refine Pl.agg ?_ | refine Pl.tup ?_ | refine Pl.rp ?_ | refine Pl.fn ?_)); (first | done | fail)) | refine RenB.of ?_ | exact RenV.ptr rfl | exact RenV.sl rfl | exact RenV.mp rfl | exact RenV.it rfl | exact RenV.low (IdsLt.mp (by assumption)) | (refine RenV.pl ?_; (repeat' (first | exact Pl.v _ | exact Pl.junk | exact Pl.rd rfl _ | exact pl_nil | refine pl_cons ?_ ?_ | refine Pl.agg ?_ | refine Pl.tup ?_ | refine Pl.rp ?_ | refine Pl.fn ?_)); (first | done | fail)) | refine RenV.aggL ?_ | refine RenV.fnL ?_ | exact Nat.lt_of_sub_pos (by decide) | (simp; (first | done | fail)))); (first | done | fail)) (by (repeat' (first | exact trivial | exact RenV.ptr rfl | exact RenV.sl rfl | exact RenV.mp rfl | exact RenV.it rfl | exact RenV.low (IdsLt.mp (by assumption)) | exact RenV.low (.v _) | exact RenV.low (IdsLt.ptr (by assumption)) | (refine RenV.pl ?_; (repeat' (first | exact Pl.v _ | exact Pl.junk | exact Pl.rd rfl _ | exact pl_nil | refine pl_cons ?_ ?_ | refine Pl.agg ?_ | refine Pl.tup ?_ | refine Pl.rp ?_ | refine Pl.fn ?_)); (first | done | fail)) | refine RenV.fnL ?_ | refine RenV.aggL ?_ | refine And.intro ?_ ?_)); (first | done | fail)))
  intro ⟨y, m, z, sd⟩ ⟨⟨hy, hml, hD⟩, hz0, hz1⟩
  simp only at hy hml hD hz0 hz1
  unfold rmO
  dsimp only
  by_cases hyn : y < 1 + h1
  ·
    repeat' (first | (with_reducible first | refine AW.sreg envOk fun K hK => ?_ | refine AW.region envOk fun K hK => ?_ | refine vcL_nil ?_) | (with_reducible (first | refine vcL_cons fun K' hK' => ?_); simp only [isC, Bool.false_or, Bool.or_true, vAppend, elems, ↓reduceDIte, List.take_length, Nat.le_refl, List.drop_zero, vGuard, undef, Bool.not_eq_eq_eq_not, dstOk, vcOp, vcF, isPure, putS, vcCall, St.ev, St.put, lk, AVal.ofVal, initS, Nat.reduceLT, true_and, and_true, vBin, vUn, vPick, vPart, vLoad, vStore, vFldA, vAlloc, vBuild, vBuildSl, partsA, fillA, decAll, AVal.flat, AVal.cell, cellsOk, setRange, ETy.enc, ETy.dec, ETy.sz, ETy.d, cond, Nat.reduceBEq, Nat.reduceAdd, Int.toNat_natCast, List.length_set, List.length_append, List.length_replicate, List.length_take, Nat.reduceSub, Nat.reduceEqDiff, get_loc, setBox_loc, next_eq, List.length_cons, List.length_nil, List.map_cons, List.map_nil, List.append_nil, List.nil_append, List.cons_append, List.set_cons_zero, List.set_cons_succ, getD_zero, getD_succ, List.getElem?_cons_succ, List.getElem?_cons_zero, List.take_succ_cons, List.take_zero, List.drop_succ_cons, List.all_cons, List.all_nil, Bool.and_true, Bool.true_and, Option.bind_some, Option.map_some, Option.map_none, decide_eq_true_eq, decide_eq_false_iff_not, ne_eq, Bool.not_eq_true, Bool.not_eq_false, Decidable.not_not, not_true_eq_false, not_false_eq_true, forall_const, false_implies, Bool.true_eq_false, Bool.false_eq_true, reduceCtorEq, decide_true, decide_false, Bool.not_true, Bool.not_false, if_true, if_false, Nat.zero_add, Nat.lt_irrefl, Value.oneCell', gt_iff_lt, Nat.reduceLeDiff, Nat.lt_add_one, vSealSl, vvar_1, vzero_1, vvar_2, vzero_2, vknd_2, vsn_2, vvar_4, vzero_4, vknd_4, vsn_4, vsl_22, vkn_22, vvar_22, vzero_22, vbyt_22, vsl_24, vkn_24, vvar_24, vzero_24, vsl_41, vkn_41, vvar_41, vzero_41, vvar_43, vzero_43, vbld_43, vvar_57, vzero_57, vfld_43_0]; try simp (disch := omega) only [wrap64]) | (with_reducible refine hK' _ ?_; clear hK' K') | (with_reducible refine hK _ ?_; clear hK K) | (with_reducible first | refine And.intro (And.intro rfl rfl) ?_ | refine And.intro (by omega) ?_) | (with_reducible refine And.intro (fun hg => ?_) (fun hg => ?_) <;> first | simp only [eq_false hg, rsB] | simp only [eq_true hg, rsB] | simp only [hg, rsB]) | (with_reducible first | refine And.intro rfl (And.intro rfl rfl) | refine thenQ_n ?_ | refine thenQ_exit ?_ | refine thenQ_ret ?_ | refine midQ_ret ?_ | refine midQ_exit ?_ | refine blockQ_same ?_ | refine blockQ_ne (by decide) ?_ | refine blockQ_ret ?_ | refine blockQ_n ?_ | refine AW.exit ?_ | refine AW.block ?_ | refine AW.cond_t rfl ?_ | refine AW.cond_f rfl ?_ | refine AW.cond_dec rfl (fun hc => ?_) (fun hc => ?_)) | (with_reducible refine AW.cond rfl (fun hc => ?_) (fun hc => ?_) <;> try simp only [Bool.not_eq_eq_eq_not, Bool.not_true, Bool.not_false, decide_eq_true_eq, decide_eq_false_iff_not] at hc) | (with_reducible first | refine AW.seq ?_ | refine AW.skip ?_ | refine AW.ret ?_ | refine And.intro ?_ ?_) | (with_reducible intro hg; first | simp only [eq_false hg, rsB] | simp only [eq_true hg, rsB]) | (with_reducible refine retQ_drop ?_; simp only [vRes, packRes, vLoad, vPart, lk, cond, Nat.reduceBEq, get_loc, getD_zero, getD_succ, true_and, List.length_cons, List.length_nil, Nat.reduceAdd, Nat.reduceLT, Nat.reduceLeDiff, List.take_succ_cons, List.take_zero, List.drop_succ_cons, List.drop_zero, vvar_1, vzero_1, vvar_2, vzero_2, vknd_2, vsn_2, vvar_4, vzero_4, vknd_4, vsn_4, vsl_22, vkn_22, vvar_22, vzero_22, vbyt_22, vsl_24, vkn_24, vvar_24, vzero_24, vsl_41, vkn_41, vvar_41, vzero_41, vvar_43, vzero_43, vbld_43, vvar_57, vzero_57, vfld_43_0]) )
    all_goals first
      | (exfalso; omega)
      | skip
    refine AW.loop (fun q : Nat × List Int × Int × Int => rmI2 cs H w1 h1 ev q.2.2 m y q.2.1 q.1) (fun q => (q.1 ≤ 1 + w1 ∧ q.2.1.length = q.1 ∧ DrawnRow q.2.1.length y q.2.1) ∧ 0 ≤ q.2.2.1 ∧ q.2.2.1 ≤ 3 + 10 * (y : Int) + 2 * (q.1 : Int)) (fun q => 1 + w1 - q.1) (0, [], z, sd) ⟨⟨Nat.zero_le _, rfl, rfl, fun x hx => by simp at hx, fun _ h => by simp at h⟩, by simp only; omega, by simp only; omega⟩ ?_ ?_
    · unfold rmI2
      exact (Weak.sel [0, 1, 2, 3, 4] hB (by decide) (by (repeat' (first | exact trivial | exact RenB.plRow rfl | exact RenB.dead _ | exact RenB.map _ _ | exact RenB.iter rfl | refine And.intro ?_ ?_ | (refine RenB.plBox ?_; (repeat' (first | exact Pl.v _ | exact Pl.junk | exact Pl.rd rfl _ | exact pl_nil | refine pl_cons ?_ ?_ | refine Pl.agg ?_ | refine Pl.tup ?_ | refine Pl.rp ?_ | refine Pl.fn ?_)); (first | done | fail)) | refine RenB.of ?_ | exact RenV.ptr rfl | exact RenV.sl rfl | exact RenV.mp rfl | exact RenV.it rfl | exact RenV.low (IdsLt.mp (by assumption)) | (refine RenV.pl ?_; (repeat' (first | exact Pl.v _ | exact Pl.junk | exact Pl.rd rfl _ | exact pl_nil | refine pl_cons ?_ ?_ | refine Pl.agg ?_ | refine Pl.tup ?_ | refine Pl.rp ?_ | refine Pl.fn ?_)); (first | done | fail)) | refine RenV.aggL ?_ | refine RenV.fnL ?_ | exact Nat.lt_of_sub_pos (by decide) | (simp; (first | done | fail)))); (first | done | fail)) (by (repeat' (first | exact trivial | exact RenV.ptr rfl | exact RenV.sl rfl | exact RenV.mp rfl | exact RenV.it rfl | exact RenV.low (IdsLt.mp (by assumption)) | exact RenV.low (.v _) | exact RenV.low (IdsLt.ptr (by assumption)) | (refine RenV.pl ?_; (repeat' (first | exact Pl.v _ | exact Pl.junk | exact Pl.rd rfl _ | exact pl_nil | refine pl_cons ?_ ?_ | refine Pl.agg ?_ | refine Pl.tup ?_ | refine Pl.rp ?_ | refine Pl.fn ?_)); (first | done | fail)) | refine RenV.fnL ?_ | refine RenV.aggL ?_ | refine And.intro ?_ ?_)); (first | done | fail)))
    clear hz0 hz1
    intro ⟨x, r, z, sd⟩ ⟨⟨hxx, hrl, hR⟩, hz0, hz1⟩
    simp only at hxx hrl hR hz0 hz1
    unfold rmI2
    dsimp only
    by_cases hxn : x < 1 + w1
    · have htk : r.take x = r := List.take_of_length_le (by omega)
      cases ev with
      | true =>
        repeat' (first | (with_reducible first | refine AW.sreg envOk fun K hK => ?_ | refine AW.region envOk fun K hK => ?_ | refine vcL_nil ?_) | (with_reducible (first | refine vcL_cons fun K' hK' => ?_); simp only [isC, Bool.false_or, Bool.or_true, vAppend, elems, ↓reduceDIte, List.take_length, Nat.le_refl, List.drop_zero, vGuard, undef, Bool.not_eq_eq_eq_not, dstOk, vcOp, vcF, isPure, putS, vcCall, St.ev, St.put, lk, AVal.ofVal, initS, Nat.reduceLT, true_and, and_true, vBin, vUn, vPick, vPart, vLoad, vStore, vFldA, vAlloc, vBuild, vBuildSl, partsA, fillA, decAll, AVal.flat, AVal.cell, cellsOk, setRange, ETy.enc, ETy.dec, ETy.sz, ETy.d, cond, Nat.reduceBEq, Nat.reduceAdd, Int.toNat_natCast, List.length_set, List.length_append, List.length_replicate, List.length_take, Nat.reduceSub, Nat.reduceEqDiff, get_loc, setBox_loc, next_eq, List.length_cons, List.length_nil, List.map_cons, List.map_nil, List.append_nil, List.nil_append, List.cons_append, List.set_cons_zero, List.set_cons_succ, getD_zero, getD_succ, List.getElem?_cons_succ, List.getElem?_cons_zero, List.take_succ_cons, List.take_zero, List.drop_succ_cons, List.all_cons, List.all_nil, Bool.and_true, Bool.true_and, Option.bind_some, Option.map_some, Option.map_none, decide_eq_true_eq, decide_eq_false_iff_not, ne_eq, Bool.not_eq_true, Bool.not_eq_false, Decidable.not_not, not_true_eq_false, not_false_eq_true, forall_const, false_implies, Bool.true_eq_false, Bool.false_eq_true, reduceCtorEq, decide_true, decide_false, Bool.not_true, Bool.not_false, if_true, if_false, Nat.zero_add, Nat.lt_irrefl, Value.oneCell', gt_iff_lt, Nat.reduceLeDiff, Nat.lt_add_one, vSealSl, vvar_1, vzero_1, vvar_2, vzero_2, vknd_2, vsn_2, vvar_4, vzero_4, vknd_4, vsn_4, vsl_22, vkn_22, vvar_22, vzero_22, vbyt_22, vsl_24, vkn_24, vvar_24, vzero_24, vsl_41, vkn_41, vvar_41, vzero_41, vvar_43, vzero_43, vbld_43, vvar_57, vzero_57, vfld_43_0, hrl, htk]; try simp (disch := omega) only [wrap64]) | (with_reducible refine hK' _ ?_; clear hK' K') | (with_reducible refine hK _ ?_; clear hK K) | ((with_reducible show vCall _ (AVal.fn 37 _) _ _ _); refine vCall_ex (one22_ac cs (z, sd) 4 (by omega) hx hu (by simp only; omega) _ 1 rfl _ hB) (fun b hb => ?_)) | (with_reducible first | refine And.intro (And.intro rfl rfl) ?_ | refine And.intro (by omega) ?_) | (with_reducible refine And.intro (fun hg => ?_) (fun hg => ?_) <;> first | simp only [eq_false hg, rsB] | simp only [eq_true hg, rsB] | simp only [hg, rsB]) | (with_reducible first | refine And.intro rfl (And.intro rfl rfl) | refine thenQ_n ?_ | refine thenQ_exit ?_ | refine thenQ_ret ?_ | refine midQ_ret ?_ | refine midQ_exit ?_ | refine blockQ_same ?_ | refine blockQ_ne (by decide) ?_ | refine blockQ_ret ?_ | refine blockQ_n ?_ | refine AW.exit ?_ | refine AW.block ?_ | refine AW.cond_t rfl ?_ | refine AW.cond_f rfl ?_ | refine AW.cond_dec rfl (fun hc => ?_) (fun hc => ?_)) | (with_reducible refine AW.cond rfl (fun hc => ?_) (fun hc => ?_) <;> try simp only [Bool.not_eq_eq_eq_not, Bool.not_true, Bool.not_false, decide_eq_true_eq, decide_eq_false_iff_not] at hc) | (with_reducible first | refine AW.seq ?_ | refine AW.skip ?_ | refine AW.ret ?_ | refine And.intro ?_ ?_) | (with_reducible intro hg; first | simp only [eq_false hg, rsB] | simp only [eq_true hg, rsB]) | (with_reducible refine retQ_drop ?_; simp only [vRes, packRes, vLoad, vPart, lk, cond, Nat.reduceBEq, get_loc, getD_zero, getD_succ, true_and, List.length_cons, List.length_nil, Nat.reduceAdd, Nat.reduceLT, Nat.reduceLeDiff, List.take_succ_cons, List.take_zero, List.drop_succ_cons, List.drop_zero, vvar_1, vzero_1, vvar_2, vzero_2, vknd_2, vsn_2, vvar_4, vzero_4, vknd_4, vsn_4, vsl_22, vkn_22, vvar_22, vzero_22, vbyt_22, vsl_24, vkn_24, vvar_24, vzero_24, vsl_41, vkn_41, vvar_41, vzero_41, vvar_43, vzero_43, vbld_43, vvar_57, vzero_57, vfld_43_0]) )
        all_goals (try obtain ⟨bv, zb, sb⟩ := b)
        all_goals (try simp only at hb)
        all_goals first
          | (exfalso; omega)
          | skip
        all_goals first
          | exact ⟨(x + 1, r ++ [0], zb, sb), ⟨⟨by simp only; omega, by simp [hrl], hR.snoc (by omega) (by omega)⟩, by simp only; omega, by simp only; omega⟩, by simp only; omega, (by simp only [List.length_append, List.length_singleton, hrl]; exact (Weak.sel [0, 1, 2, 3, 6] hB (by decide) (by (repeat' (first | exact trivial | exact RenB.plRow rfl | exact RenB.dead _ | exact RenB.map _ _ | exact RenB.iter rfl | refine And.intro ?_ ?_ | (refine RenB.plBox ?_; (repeat' (first | exact Pl.v _ | exact Pl.junk | exact Pl.rd rfl _ | exact pl_nil | refine pl_cons ?_ ?_ | refine Pl.agg ?_ | refine Pl.tup ?_ | refine Pl.rp ?_ | refine Pl.fn ?_)); (first | done | fail)) | refine RenB.of ?_ | exact RenV.ptr rfl | exact RenV.sl rfl | exact RenV.mp rfl | exact RenV.it rfl | exact RenV.low (IdsLt.mp (by assumption)) | (refine RenV.pl ?_; (repeat' (first | exact Pl.v _ | exact Pl.junk | exact Pl.rd rfl _ | exact pl_nil | refine pl_cons ?_ ?_ | refine Pl.agg ?_ | refine Pl.tup ?_ | refine Pl.rp ?_ | refine Pl.fn ?_)); (first | done | fail)) | refine RenV.aggL ?_ | refine RenV.fnL ?_ | exact Nat.lt_of_sub_pos (by decide) | (simp; (first | done | fail)))); (first | done | fail)) (by (repeat' (first | exact trivial | exact RenV.ptr rfl | exact RenV.sl rfl | exact RenV.mp rfl | exact RenV.it rfl | exact RenV.low (IdsLt.mp (by assumption)) | exact RenV.low (.v _) | exact RenV.low (IdsLt.ptr (by assumption)) | (refine RenV.pl ?_; (repeat' (first | exact Pl.v _ | exact Pl.junk | exact Pl.rd rfl _ | exact pl_nil | refine pl_cons ?_ ?_ | refine Pl.agg ?_ | refine Pl.tup ?_ | refine Pl.rp ?_ | refine Pl.fn ?_)); (first | done | fail)) | refine RenV.fnL ?_ | refine RenV.aggL ?_ | refine And.intro ?_ ?_)); (first | done | fail))))⟩
          | exact ⟨(x + 1, r ++ [1], zb, sb), ⟨⟨by simp only; omega, by simp [hrl], hR.snoc (by omega) (by omega)⟩, by simp only; omega, by simp only; omega⟩, by simp only; omega, (by simp only [List.length_append, List.length_singleton, hrl]; exact (Weak.sel [0, 1, 2, 3, 6] hB (by decide) (by (repeat' (first | exact trivial | exact RenB.plRow rfl | exact RenB.dead _ | exact RenB.map _ _ | exact RenB.iter rfl | refine And.intro ?_ ?_ | (refine RenB.plBox ?_; (repeat' (first | exact Pl.v _ | exact Pl.junk | exact Pl.rd rfl _ | exact pl_nil | refine pl_cons ?_ ?_ | refine Pl.agg ?_ | refine Pl.tup ?_ | refine Pl.rp ?_ | refine Pl.fn ?_)); (first | done | fail)) | refine RenB.of ?_ | exact RenV.ptr rfl | exact RenV.sl rfl | exact RenV.mp rfl | exact RenV.it rfl | exact RenV.low (IdsLt.mp (by assumption)) | (refine RenV.pl ?_; (repeat' (first | exact Pl.v _ | exact Pl.junk | exact Pl.rd rfl _ | exact pl_nil | refine pl_cons ?_ ?_ | refine Pl.agg ?_ | refine Pl.tup ?_ | refine Pl.rp ?_ | refine Pl.fn ?_)); (first | done | fail)) | refine RenV.aggL ?_ | refine RenV.fnL ?_ | exact Nat.lt_of_sub_pos (by decide) | (simp; (first | done | fail)))); (first | done | fail)) (by (repeat' (first | exact trivial | exact RenV.ptr rfl | exact RenV.sl rfl | exact RenV.mp rfl | exact RenV.it rfl | exact RenV.low (IdsLt.mp (by assumption)) | exact RenV.low (.v _) | exact RenV.low (IdsLt.ptr (by assumption)) | (refine RenV.pl ?_; (repeat' (first | exact Pl.v _ | exact Pl.junk | exact Pl.rd rfl _ | exact pl_nil | refine pl_cons ?_ ?_ | refine Pl.agg ?_ | refine Pl.tup ?_ | refine Pl.rp ?_ | refine Pl.fn ?_)); (first | done | fail)) | refine RenV.fnL ?_ | refine RenV.aggL ?_ | refine And.intro ?_ ?_)); (first | done | fail))))⟩
          | skip
      | false =>
        repeat' (first | (with_reducible first | refine AW.sreg envOk fun K hK => ?_ | refine AW.region envOk fun K hK => ?_ | refine vcL_nil ?_) | (with_reducible (first | refine vcL_cons fun K' hK' => ?_); simp only [isC, Bool.false_or, Bool.or_true, vAppend, elems, ↓reduceDIte, List.take_length, Nat.le_refl, List.drop_zero, vGuard, undef, Bool.not_eq_eq_eq_not, dstOk, vcOp, vcF, isPure, putS, vcCall, St.ev, St.put, lk, AVal.ofVal, initS, Nat.reduceLT, true_and, and_true, vBin, vUn, vPick, vPart, vLoad, vStore, vFldA, vAlloc, vBuild, vBuildSl, partsA, fillA, decAll, AVal.flat, AVal.cell, cellsOk, setRange, ETy.enc, ETy.dec, ETy.sz, ETy.d, cond, Nat.reduceBEq, Nat.reduceAdd, Int.toNat_natCast, List.length_set, List.length_append, List.length_replicate, List.length_take, Nat.reduceSub, Nat.reduceEqDiff, get_loc, setBox_loc, next_eq, List.length_cons, List.length_nil, List.map_cons, List.map_nil, List.append_nil, List.nil_append, List.cons_append, List.set_cons_zero, List.set_cons_succ, getD_zero, getD_succ, List.getElem?_cons_succ, List.getElem?_cons_zero, List.take_succ_cons, List.take_zero, List.drop_succ_cons, List.all_cons, List.all_nil, Bool.and_true, Bool.true_and, Option.bind_some, Option.map_some, Option.map_none, decide_eq_true_eq, decide_eq_false_iff_not, ne_eq, Bool.not_eq_true, Bool.not_eq_false, Decidable.not_not, not_true_eq_false, not_false_eq_true, forall_const, false_implies, Bool.true_eq_false, Bool.false_eq_true, reduceCtorEq, decide_true, decide_false, Bool.not_true, Bool.not_false, if_true, if_false, Nat.zero_add, Nat.lt_irrefl, Value.oneCell', gt_iff_lt, Nat.reduceLeDiff, Nat.lt_add_one, vSealSl, vvar_1, vzero_1, vvar_2, vzero_2, vknd_2, vsn_2, vvar_4, vzero_4, vknd_4, vsn_4, vsl_22, vkn_22, vvar_22, vzero_22, vbyt_22, vsl_24, vkn_24, vvar_24, vzero_24, vsl_41, vkn_41, vvar_41, vzero_41, vvar_43, vzero_43, vbld_43, vvar_57, vzero_57, vfld_43_0, hrl, htk]; try simp (disch := omega) only [wrap64]) | (with_reducible refine hK' _ ?_; clear hK' K') | (with_reducible refine hK _ ?_; clear hK K) | ((with_reducible show vCall _ (AVal.fn 26 _) _ _ _); refine vCall_ex (pick86e_ac cs (z, sd) 9 (by omega) hx hu (by simp only; omega) _ 1 rfl _ hB) (fun q hq => ?_)) | (with_reducible first | refine And.intro (And.intro rfl rfl) ?_ | refine And.intro (by omega) ?_) | (with_reducible refine And.intro (fun hg => ?_) (fun hg => ?_) <;> first | simp only [eq_false hg, rsB] | simp only [eq_true hg, rsB] | simp only [hg, rsB]) | (with_reducible first | refine And.intro rfl (And.intro rfl rfl) | refine thenQ_n ?_ | refine thenQ_exit ?_ | refine thenQ_ret ?_ | refine midQ_ret ?_ | refine midQ_exit ?_ | refine blockQ_same ?_ | refine blockQ_ne (by decide) ?_ | refine blockQ_ret ?_ | refine blockQ_n ?_ | refine AW.exit ?_ | refine AW.block ?_ | refine AW.cond_t rfl ?_ | refine AW.cond_f rfl ?_ | refine AW.cond_dec rfl (fun hc => ?_) (fun hc => ?_)) | (with_reducible refine AW.cond rfl (fun hc => ?_) (fun hc => ?_) <;> try simp only [Bool.not_eq_eq_eq_not, Bool.not_true, Bool.not_false, decide_eq_true_eq, decide_eq_false_iff_not] at hc) | (with_reducible first | refine AW.seq ?_ | refine AW.skip ?_ | refine AW.ret ?_ | refine And.intro ?_ ?_) | (with_reducible intro hg; first | simp only [eq_false hg, rsB] | simp only [eq_true hg, rsB]) | (with_reducible refine retQ_drop ?_; simp only [vRes, packRes, vLoad, vPart, lk, cond, Nat.reduceBEq, get_loc, getD_zero, getD_succ, true_and, List.length_cons, List.length_nil, Nat.reduceAdd, Nat.reduceLT, Nat.reduceLeDiff, List.take_succ_cons, List.take_zero, List.drop_succ_cons, List.drop_zero, vvar_1, vzero_1, vvar_2, vzero_2, vknd_2, vsn_2, vvar_4, vzero_4, vknd_4, vsn_4, vsl_22, vkn_22, vvar_22, vzero_22, vbyt_22, vsl_24, vkn_24, vvar_24, vzero_24, vsl_41, vkn_41, vvar_41, vzero_41, vvar_43, vzero_43, vbld_43, vvar_57, vzero_57, vfld_43_0]) )
        obtain ⟨qv, zq, sq⟩ := q
        simp only at hq
        repeat' (first | (with_reducible first | refine AW.sreg envOk fun K hK => ?_ | refine AW.region envOk fun K hK => ?_ | refine vcL_nil ?_) | (with_reducible (first | refine vcL_cons fun K' hK' => ?_); simp only [isC, Bool.false_or, Bool.or_true, vAppend, elems, ↓reduceDIte, List.take_length, Nat.le_refl, List.drop_zero, vGuard, undef, Bool.not_eq_eq_eq_not, dstOk, vcOp, vcF, isPure, putS, vcCall, St.ev, St.put, lk, AVal.ofVal, initS, Nat.reduceLT, true_and, and_true, vBin, vUn, vPick, vPart, vLoad, vStore, vFldA, vAlloc, vBuild, vBuildSl, partsA, fillA, decAll, AVal.flat, AVal.cell, cellsOk, setRange, ETy.enc, ETy.dec, ETy.sz, ETy.d, cond, Nat.reduceBEq, Nat.reduceAdd, Int.toNat_natCast, List.length_set, List.length_append, List.length_replicate, List.length_take, Nat.reduceSub, Nat.reduceEqDiff, get_loc, setBox_loc, next_eq, List.length_cons, List.length_nil, List.map_cons, List.map_nil, List.append_nil, List.nil_append, List.cons_append, List.set_cons_zero, List.set_cons_succ, getD_zero, getD_succ, List.getElem?_cons_succ, List.getElem?_cons_zero, List.take_succ_cons, List.take_zero, List.drop_succ_cons, List.all_cons, List.all_nil, Bool.and_true, Bool.true_and, Option.bind_some, Option.map_some, Option.map_none, decide_eq_true_eq, decide_eq_false_iff_not, ne_eq, Bool.not_eq_true, Bool.not_eq_false, Decidable.not_not, not_true_eq_false, not_false_eq_true, forall_const, false_implies, Bool.true_eq_false, Bool.false_eq_true, reduceCtorEq, decide_true, decide_false, Bool.not_true, Bool.not_false, if_true, if_false, Nat.zero_add, Nat.lt_irrefl, Value.oneCell', gt_iff_lt, Nat.reduceLeDiff, Nat.lt_add_one, vSealSl, vvar_1, vzero_1, vvar_2, vzero_2, vknd_2, vsn_2, vvar_4, vzero_4, vknd_4, vsn_4, vsl_22, vkn_22, vvar_22, vzero_22, vbyt_22, vsl_24, vkn_24, vvar_24, vzero_24, vsl_41, vkn_41, vvar_41, vzero_41, vvar_43, vzero_43, vbld_43, vvar_57, vzero_57, vfld_43_0, hrl, htk]; try simp (disch := omega) only [wrap64]) | (with_reducible refine hK' _ ?_; clear hK' K') | (with_reducible refine hK _ ?_; clear hK K) | ((with_reducible show vCall _ (AVal.fn 37 _) _ _ _); refine vCall_ex (one22_ac cs (zq, sq) 4 (by omega) hx hu (by simp only; omega) _ 1 rfl _ hB) (fun b hb => ?_)) | (with_reducible first | refine And.intro (And.intro rfl rfl) ?_ | refine And.intro (by omega) ?_) | (with_reducible refine And.intro (fun hg => ?_) (fun hg => ?_) <;> first | simp only [eq_false hg, rsB] | simp only [eq_true hg, rsB] | simp only [hg, rsB]) | (with_reducible first | refine And.intro rfl (And.intro rfl rfl) | refine thenQ_n ?_ | refine thenQ_exit ?_ | refine thenQ_ret ?_ | refine midQ_ret ?_ | refine midQ_exit ?_ | refine blockQ_same ?_ | refine blockQ_ne (by decide) ?_ | refine blockQ_ret ?_ | refine blockQ_n ?_ | refine AW.exit ?_ | refine AW.block ?_ | refine AW.cond_t rfl ?_ | refine AW.cond_f rfl ?_ | refine AW.cond_dec rfl (fun hc => ?_) (fun hc => ?_)) | (with_reducible refine AW.cond rfl (fun hc => ?_) (fun hc => ?_) <;> try simp only [Bool.not_eq_eq_eq_not, Bool.not_true, Bool.not_false, decide_eq_true_eq, decide_eq_false_iff_not] at hc) | (with_reducible first | refine AW.seq ?_ | refine AW.skip ?_ | refine AW.ret ?_ | refine And.intro ?_ ?_) | (with_reducible intro hg; first | simp only [eq_false hg, rsB] | simp only [eq_true hg, rsB]) | (with_reducible refine retQ_drop ?_; simp only [vRes, packRes, vLoad, vPart, lk, cond, Nat.reduceBEq, get_loc, getD_zero, getD_succ, true_and, List.length_cons, List.length_nil, Nat.reduceAdd, Nat.reduceLT, Nat.reduceLeDiff, List.take_succ_cons, List.take_zero, List.drop_succ_cons, List.drop_zero, vvar_1, vzero_1, vvar_2, vzero_2, vknd_2, vsn_2, vvar_4, vzero_4, vknd_4, vsn_4, vsl_22, vkn_22, vvar_22, vzero_22, vbyt_22, vsl_24, vkn_24, vvar_24, vzero_24, vsl_41, vkn_41, vvar_41, vzero_41, vvar_43, vzero_43, vbld_43, vvar_57, vzero_57, vfld_43_0]) )
        all_goals (try obtain ⟨bv, zb, sb⟩ := b)
        all_goals (try simp only at hb)
        all_goals first
          | (exfalso; omega)
          | skip
        all_goals first
          | exact ⟨(x + 1, r ++ [0], zb, sb), ⟨⟨by simp only; omega, by simp [hrl], hR.snoc (by omega) (by omega)⟩, by simp only; omega, by simp only; omega⟩, by simp only; omega, (by simp only [List.length_append, List.length_singleton, hrl]; exact (Weak.sel [0, 1, 2, 3, 6] hB (by decide) (by (repeat' (first | exact trivial | exact RenB.plRow rfl | exact RenB.dead _ | exact RenB.map _ _ | exact RenB.iter rfl | refine And.intro ?_ ?_ | (refine RenB.plBox ?_; (repeat' (first | exact Pl.v _ | exact Pl.junk | exact Pl.rd rfl _ | exact pl_nil | refine pl_cons ?_ ?_ | refine Pl.agg ?_ | refine Pl.tup ?_ | refine Pl.rp ?_ | refine Pl.fn ?_)); (first | done | fail)) | refine RenB.of ?_ | exact RenV.ptr rfl | exact RenV.sl rfl | exact RenV.mp rfl | exact RenV.it rfl | exact RenV.low (IdsLt.mp (by assumption)) | (refine RenV.pl ?_; (repeat' (first | exact Pl.v _ | exact Pl.junk | exact Pl.rd rfl _ | exact pl_nil | refine pl_cons ?_ ?_ | refine Pl.agg ?_ | refine Pl.tup ?_ | refine Pl.rp ?_ | refine Pl.fn ?_)); (first | done | fail)) | refine RenV.aggL ?_ | refine RenV.fnL ?_ | exact Nat.lt_of_sub_pos (by decide) | (simp; (first | done | fail)))); (first | done | fail)) (by (repeat' (first | exact trivial | exact RenV.ptr rfl | exact RenV.sl rfl | exact RenV.mp rfl | exact RenV.it rfl | exact RenV.low (IdsLt.mp (by assumption)) | exact RenV.low (.v _) | exact RenV.low (IdsLt.ptr (by assumption)) | (refine RenV.pl ?_; (repeat' (first | exact Pl.v _ | exact Pl.junk | exact Pl.rd rfl _ | exact pl_nil | refine pl_cons ?_ ?_ | refine Pl.agg ?_ | refine Pl.tup ?_ | refine Pl.rp ?_ | refine Pl.fn ?_)); (first | done | fail)) | refine RenV.fnL ?_ | refine RenV.aggL ?_ | refine And.intro ?_ ?_)); (first | done | fail))))⟩
          | exact ⟨(x + 1, r ++ [1 + qv], zb, sb), ⟨⟨by simp only; omega, by simp [hrl], hR.snoc (by omega) (by omega)⟩, by simp only; omega, by simp only; omega⟩, by simp only; omega, (by simp only [List.length_append, List.length_singleton, hrl]; exact (Weak.sel [0, 1, 2, 3, 6] hB (by decide) (by (repeat' (first | exact trivial | exact RenB.plRow rfl | exact RenB.dead _ | exact RenB.map _ _ | exact RenB.iter rfl | refine And.intro ?_ ?_ | (refine RenB.plBox ?_; (repeat' (first | exact Pl.v _ | exact Pl.junk | exact Pl.rd rfl _ | exact pl_nil | refine pl_cons ?_ ?_ | refine Pl.agg ?_ | refine Pl.tup ?_ | refine Pl.rp ?_ | refine Pl.fn ?_)); (first | done | fail)) | refine RenB.of ?_ | exact RenV.ptr rfl | exact RenV.sl rfl | exact RenV.mp rfl | exact RenV.it rfl | exact RenV.low (IdsLt.mp (by assumption)) | (refine RenV.pl ?_; (repeat' (first | exact Pl.v _ | exact Pl.junk | exact Pl.rd rfl _ | exact pl_nil | refine pl_cons ?_ ?_ | refine Pl.agg ?_ | refine Pl.tup ?_ | refine Pl.rp ?_ | refine Pl.fn ?_)); (first | done | fail)) | refine RenV.aggL ?_ | refine RenV.fnL ?_ | exact Nat.lt_of_sub_pos (by decide) | (simp; (first | done | fail)))); (first | done | fail)) (by (repeat' (first | exact trivial | exact RenV.ptr rfl | exact RenV.sl rfl | exact RenV.mp rfl | exact RenV.it rfl | exact RenV.low (IdsLt.mp (by assumption)) | exact RenV.low (.v _) | exact RenV.low (IdsLt.ptr (by assumption)) | (refine RenV.pl ?_; (repeat' (first | exact Pl.v _ | exact Pl.junk | exact Pl.rd rfl _ | exact pl_nil | refine pl_cons ?_ ?_ | refine Pl.agg ?_ | refine Pl.tup ?_ | refine Pl.rp ?_ | refine Pl.fn ?_)); (first | done | fail)) | refine RenV.fnL ?_ | refine RenV.aggL ?_ | refine And.intro ?_ ?_)); (first | done | fail))))⟩
          | skip
    · obtain rfl : x = 1 + w1 := by omega
      refine AW.weak (st2 := (⟨59, [(2, .ptr 1 (H.length + 0) 0 0), (3, .ptr 1 (H.length + 1) 0 0), (4, .ptr 1 (H.length + 3) 0 0), (5, .v (.int .i64 (1 + (w1 : Int)))), (6, .v (.int .i64 (1 + (h1 : Int)))), (7, .v (.bool (ev))), (8, .v (.int .i64 ((y : Int)))), (9, .rd (.int .i64) (r)), (10, .v (.int .i64 (((1 + w1 : Nat) : Int))))], H, [.box false [.v (.slice none 0 0)], srcBox cs (z, sd), .row false (.sli .i64) m, .box false [.sl 1 (H.length + 2) 0 m.length], .dead]⟩ : St)) ?_ ?_
      · refine Weak.seal 4 (e := .int .i64) (xs := r) (by simp) rfl rfl ?_ ?_
        · repeat' (first | exact trivial | exact SealB.same _ | exact SealB.dead _ | refine And.intro ?_ ?_)
        · repeat' (first | exact trivial | exact SealV.same _ | exact SealV.whole rfl rfl | refine And.intro ?_ ?_)
      have htk : m.take y = m := List.take_of_length_le (by omega)
      have hRw : DrawnRow (1 + w1) m.length r := by rw [hml, ← hrl]; exact hR
      repeat' (first | (with_reducible first | refine AW.sreg envOk fun K hK => ?_ | refine AW.region envOk fun K hK => ?_ | refine vcL_nil ?_) | (with_reducible (first | refine vcL_cons fun K' hK' => ?_); simp only [isC, Bool.false_or, Bool.or_true, vAppend, elems, ↓reduceDIte, List.take_length, Nat.le_refl, List.drop_zero, vGuard, undef, Bool.not_eq_eq_eq_not, dstOk, vcOp, vcF, isPure, putS, vcCall, St.ev, St.put, lk, AVal.ofVal, initS, Nat.reduceLT, true_and, and_true, vBin, vUn, vPick, vPart, vLoad, vStore, vFldA, vAlloc, vBuild, vBuildSl, partsA, fillA, decAll, AVal.flat, AVal.cell, cellsOk, setRange, ETy.enc, ETy.dec, ETy.sz, ETy.d, cond, Nat.reduceBEq, Nat.reduceAdd, Int.toNat_natCast, List.length_set, List.length_append, List.length_replicate, List.length_take, Nat.reduceSub, Nat.reduceEqDiff, get_loc, setBox_loc, next_eq, List.length_cons, List.length_nil, List.map_cons, List.map_nil, List.append_nil, List.nil_append, List.cons_append, List.set_cons_zero, List.set_cons_succ, getD_zero, getD_succ, List.getElem?_cons_succ, List.getElem?_cons_zero, List.take_succ_cons, List.take_zero, List.drop_succ_cons, List.all_cons, List.all_nil, Bool.and_true, Bool.true_and, Option.bind_some, Option.map_some, Option.map_none, decide_eq_true_eq, decide_eq_false_iff_not, ne_eq, Bool.not_eq_true, Bool.not_eq_false, Decidable.not_not, not_true_eq_false, not_false_eq_true, forall_const, false_implies, Bool.true_eq_false, Bool.false_eq_true, reduceCtorEq, decide_true, decide_false, Bool.not_true, Bool.not_false, if_true, if_false, Nat.zero_add, Nat.lt_irrefl, Value.oneCell', gt_iff_lt, Nat.reduceLeDiff, Nat.lt_add_one, vSealSl, vvar_1, vzero_1, vvar_2, vzero_2, vknd_2, vsn_2, vvar_4, vzero_4, vknd_4, vsn_4, vsl_22, vkn_22, vvar_22, vzero_22, vbyt_22, vsl_24, vkn_24, vvar_24, vzero_24, vsl_41, vkn_41, vvar_41, vzero_41, vvar_43, vzero_43, vbld_43, vvar_57, vzero_57, vfld_43_0, hml, htk]; try simp (disch := omega) only [wrap64]) | (with_reducible refine hK' _ ?_; clear hK' K') | (with_reducible refine hK _ ?_; clear hK K) | (with_reducible first | refine And.intro (And.intro rfl rfl) ?_ | refine And.intro (by omega) ?_) | (with_reducible refine And.intro (fun hg => ?_) (fun hg => ?_) <;> first | simp only [eq_false hg, rsB] | simp only [eq_true hg, rsB] | simp only [hg, rsB]) | (with_reducible first | refine And.intro rfl (And.intro rfl rfl) | refine thenQ_n ?_ | refine thenQ_exit ?_ | refine thenQ_ret ?_ | refine midQ_ret ?_ | refine midQ_exit ?_ | refine blockQ_same ?_ | refine blockQ_ne (by decide) ?_ | refine blockQ_ret ?_ | refine blockQ_n ?_ | refine AW.exit ?_ | refine AW.block ?_ | refine AW.cond_t rfl ?_ | refine AW.cond_f rfl ?_ | refine AW.cond_dec rfl (fun hc => ?_) (fun hc => ?_)) | (with_reducible refine AW.cond rfl (fun hc => ?_) (fun hc => ?_) <;> try simp only [Bool.not_eq_eq_eq_not, Bool.not_true, Bool.not_false, decide_eq_true_eq, decide_eq_false_iff_not] at hc) | (with_reducible first | refine AW.seq ?_ | refine AW.skip ?_ | refine AW.ret ?_ | refine And.intro ?_ ?_) | (with_reducible intro hg; first | simp only [eq_false hg, rsB] | simp only [eq_true hg, rsB]) | (with_reducible refine retQ_drop ?_; simp only [vRes, packRes, vLoad, vPart, lk, cond, Nat.reduceBEq, get_loc, getD_zero, getD_succ, true_and, List.length_cons, List.length_nil, Nat.reduceAdd, Nat.reduceLT, Nat.reduceLeDiff, List.take_succ_cons, List.take_zero, List.drop_succ_cons, List.drop_zero, vvar_1, vzero_1, vvar_2, vzero_2, vknd_2, vsn_2, vvar_4, vzero_4, vknd_4, vsn_4, vsl_22, vkn_22, vvar_22, vzero_22, vbyt_22, vsl_24, vkn_24, vvar_24, vzero_24, vsl_41, vkn_41, vvar_41, vzero_41, vvar_43, vzero_43, vbld_43, vvar_57, vzero_57, vfld_43_0]) )
      all_goals first
        | (exfalso; omega)
        | skip
      refine ⟨(y + 1, m ++ [r], z, sd), ⟨⟨by simp only; omega, by simp [hml], hD.snoc hRw⟩, by simp only; omega, by simp only; omega⟩, by simp only; omega, ?_⟩
      simp only [List.length_append, List.length_singleton, hml]
      exact (Weak.sel [0, 1, 6, 3] hB (by decide) (by (repeat' (first | exact trivial | exact RenB.plRow rfl | exact RenB.dead _ | exact RenB.map _ _ | exact RenB.iter rfl | refine And.intro ?_ ?_ | (refine RenB.plBox ?_; (repeat' (first | exact Pl.v _ | exact Pl.junk | exact Pl.rd rfl _ | exact pl_nil | refine pl_cons ?_ ?_ | refine Pl.agg ?_ | refine Pl.tup ?_ | refine Pl.rp ?_ | refine Pl.fn ?_)); (first | done | fail)) | refine RenB.of ?_ | exact RenV.ptr rfl | exact RenV.sl rfl | exact RenV.mp rfl | exact RenV.it rfl | exact RenV.low (IdsLt.mp (by assumption)) | (refine RenV.pl ?_; (repeat' (first | exact Pl.v _ | exact Pl.junk | exact Pl.rd rfl _ | exact pl_nil | refine pl_cons ?_ ?_ | refine Pl.agg ?_ | refine Pl.tup ?_ | refine Pl.rp ?_ | refine Pl.fn ?_)); (first | done | fail)) | refine RenV.aggL ?_ | refine RenV.fnL ?_ | exact Nat.lt_of_sub_pos (by decide) | (simp; (first | done | fail)))); (first | done | fail)) (by (repeat' (first | exact trivial | exact RenV.ptr rfl | exact RenV.sl rfl | exact RenV.mp rfl | exact RenV.it rfl | exact RenV.low (IdsLt.mp (by assumption)) | exact RenV.low (.v _) | exact RenV.low (IdsLt.ptr (by assumption)) | (refine RenV.pl ?_; (repeat' (first | exact Pl.v _ | exact Pl.junk | exact Pl.rd rfl _ | exact pl_nil | refine pl_cons ?_ ?_ | refine Pl.agg ?_ | refine Pl.tup ?_ | refine Pl.rp ?_ | refine Pl.fn ?_)); (first | done | fail)) | refine RenV.fnL ?_ | refine RenV.aggL ?_ | refine And.intro ?_ ?_)); (first | done | fail)))
  · obtain rfl : y = 1 + h1 := by omega
    repeat' (first | (with_reducible first | refine AW.sreg envOk fun K hK => ?_ | refine AW.region envOk fun K hK => ?_ | refine vcL_nil ?_) | (with_reducible (first | refine vcL_cons fun K' hK' => ?_); simp only [isC, Bool.false_or, Bool.or_true, vAppend, elems, ↓reduceDIte, List.take_length, Nat.le_refl, List.drop_zero, vGuard, undef, Bool.not_eq_eq_eq_not, dstOk, vcOp, vcF, isPure, putS, vcCall, St.ev, St.put, lk, AVal.ofVal, initS, Nat.reduceLT, true_and, and_true, vBin, vUn, vPick, vPart, vLoad, vStore, vFldA, vAlloc, vBuild, vBuildSl, partsA, fillA, decAll, AVal.flat, AVal.cell, cellsOk, setRange, ETy.enc, ETy.dec, ETy.sz, ETy.d, cond, Nat.reduceBEq, Nat.reduceAdd, Int.toNat_natCast, List.length_set, List.length_append, List.length_replicate, List.length_take, Nat.reduceSub, Nat.reduceEqDiff, get_loc, setBox_loc, next_eq, List.length_cons, List.length_nil, List.map_cons, List.map_nil, List.append_nil, List.nil_append, List.cons_append, List.set_cons_zero, List.set_cons_succ, getD_zero, getD_succ, List.getElem?_cons_succ, List.getElem?_cons_zero, List.take_succ_cons, List.take_zero, List.drop_succ_cons, List.all_cons, List.all_nil, Bool.and_true, Bool.true_and, Option.bind_some, Option.map_some, Option.map_none, decide_eq_true_eq, decide_eq_false_iff_not, ne_eq, Bool.not_eq_true, Bool.not_eq_false, Decidable.not_not, not_true_eq_false, not_false_eq_true, forall_const, false_implies, Bool.true_eq_false, Bool.false_eq_true, reduceCtorEq, decide_true, decide_false, Bool.not_true, Bool.not_false, if_true, if_false, Nat.zero_add, Nat.lt_irrefl, Value.oneCell', gt_iff_lt, Nat.reduceLeDiff, Nat.lt_add_one, vSealSl, vvar_1, vzero_1, vvar_2, vzero_2, vknd_2, vsn_2, vvar_4, vzero_4, vknd_4, vsn_4, vsl_22, vkn_22, vvar_22, vzero_22, vbyt_22, vsl_24, vkn_24, vvar_24, vzero_24, vsl_41, vkn_41, vvar_41, vzero_41, vvar_43, vzero_43, vbld_43, vvar_57, vzero_57, vfld_43_0]; try simp (disch := omega) only [wrap64]) | (with_reducible refine hK' _ ?_; clear hK' K') | (with_reducible refine hK _ ?_; clear hK K) | (with_reducible first | refine And.intro (And.intro rfl rfl) ?_ | refine And.intro (by omega) ?_) | (with_reducible refine And.intro (fun hg => ?_) (fun hg => ?_) <;> first | simp only [eq_false hg, rsB] | simp only [eq_true hg, rsB] | simp only [hg, rsB]) | (with_reducible first | refine And.intro rfl (And.intro rfl rfl) | refine thenQ_n ?_ | refine thenQ_exit ?_ | refine thenQ_ret ?_ | refine midQ_ret ?_ | refine midQ_exit ?_ | refine blockQ_same ?_ | refine blockQ_ne (by decide) ?_ | refine blockQ_ret ?_ | refine blockQ_n ?_ | refine AW.exit ?_ | refine AW.block ?_ | refine AW.cond_t rfl ?_ | refine AW.cond_f rfl ?_ | refine AW.cond_dec rfl (fun hc => ?_) (fun hc => ?_)) | (with_reducible refine AW.cond rfl (fun hc => ?_) (fun hc => ?_) <;> try simp only [Bool.not_eq_eq_eq_not, Bool.not_true, Bool.not_false, decide_eq_true_eq, decide_eq_false_iff_not] at hc) | (with_reducible first | refine AW.seq ?_ | refine AW.skip ?_ | refine AW.ret ?_ | refine And.intro ?_ ?_) | (with_reducible intro hg; first | simp only [eq_false hg, rsB] | simp only [eq_true hg, rsB]) | (with_reducible refine retQ_drop ?_; simp only [vRes, packRes, vLoad, vPart, lk, cond, Nat.reduceBEq, get_loc, getD_zero, getD_succ, true_and, List.length_cons, List.length_nil, Nat.reduceAdd, Nat.reduceLT, Nat.reduceLeDiff, List.take_succ_cons, List.take_zero, List.drop_succ_cons, List.drop_zero, vvar_1, vzero_1, vvar_2, vzero_2, vknd_2, vsn_2, vvar_4, vzero_4, vknd_4, vsn_4, vsl_22, vkn_22, vvar_22, vzero_22, vbyt_22, vsl_24, vkn_24, vvar_24, vzero_24, vsl_41, vkn_41, vvar_41, vzero_41, vvar_43, vzero_43, vbld_43, vvar_57, vzero_57, vfld_43_0]) )
    all_goals first
      | (exfalso; omega)
      | skip
    exact ⟨.agg [.rd (.sli .i64) (m)], _, FinOk.seal 2 (.sli .i64) m hB (by simp) rfl (SealV.agg rfl (fun i hi => by
      have hi' : i < 1 := hi
      obtain rfl : i = 0 := by omega
      exact SealV.whole rfl rfl)) (Pl.ids (by (repeat' (first | exact Pl.v _ | exact Pl.junk | exact Pl.rd rfl _ | exact pl_nil | refine pl_cons ?_ ?_ | refine Pl.agg ?_ | refine Pl.tup ?_ | refine Pl.rp ?_ | refine Pl.fn ?_)); (first | done | fail))), m, hD.small (by omega) (by omega), rfl, rfl⟩
end Go.Proofs.YtmkcahfhnehanaaDoor
end

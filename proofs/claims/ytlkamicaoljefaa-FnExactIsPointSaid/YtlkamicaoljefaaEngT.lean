/- The engine, part T: the closed facts of a row, over a program whose head names many roots. -/
import Derived.Test.YtlkamicaoljefaaEngS
import Derived.ProofKit
import Derived.JoinedOf
import GoSem.ClaimOpenFrom
set_option linter.unusedSimpArgs false
set_option linter.unusedVariables false
namespace Go.Eng
variable {P : Program}

theorem wordsSigns_word : ∀ (w r : List Char), w.all (fun c => c != Char.ofNat 32) = true → wordsSigns (w ++ Char.ofNat 32 :: r) = w :: wordsSigns r
  | [], r, _ => rfl
  | c :: w, r, h => by
    simp only [List.all_cons, Bool.and_eq_true] at h
    have ih := wordsSigns_word w r h.2
    have hc : c ≠ Char.ofNat 32 := by simpa using h.1
    show wordsSigns (c :: (w ++ Char.ofNat 32 :: r)) = _
    rw [wordsSigns, ih]
    exact fun e => hc e
theorem behind_cut {a b tail : List Char} (h : P.initOrder.toList = a ++ Char.ofNat 32 :: (b ++ Char.ofNat 32 :: ("cut".toList ++ Char.ofNat 32 :: tail))) (ha : a = "harness".toList) (hb : isSumSigns b = true) (hb2 : b.all (fun c => c != Char.ofNat 32) = true) :
    behindMainWord (wordsSigns P.initOrder.toList) = "cut".toList :: wordsSigns tail := by
  rw [h, wordsSigns_word _ _ (by subst ha; decide), wordsSigns_word _ _ hb2, wordsSigns_word _ _ (by decide)]
  subst ha
  unfold behindMainWord
  simp only [hb]
  rfl
theorem strip_cut (rest : List (List Char)) : stripLifts liftWords ("cut".toList :: rest) = ([], "cut".toList :: rest) := by rfl
section
variable {rest : List (List Char)} (h : behindMainWord (wordsSigns P.initOrder.toList) = "cut".toList :: rest)
include h
theorem mayEnter_of (h1 : P.laysLater = false) (h2 : P.bearsReflect = false) (h3 : P.doorFits [] = true) : P.mayEnter = true := by
  unfold Program.mayEnter
  rw [h]
  simp only [strip_cut, h1, h2, h3]
  rfl
theorem headLifts_of : P.headLifts = [] := by
  unfold Program.headLifts
  rw [h]
  simp only [strip_cut]
  rfl
theorem liftsFinal_of : P.liftsFinal = false := by
  unfold Program.liftsFinal
  rw [h, headLifts_of h]
  rfl
theorem make_of : P.make = some .cut := by
  unfold Program.make
  rw [h]
  rfl
end
end Go.Eng

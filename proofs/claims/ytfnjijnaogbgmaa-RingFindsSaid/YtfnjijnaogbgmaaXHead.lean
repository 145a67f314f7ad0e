/- The head of the program's dump, word by word: what the rows' closed facts look at (mayEnter, liftsFinal, make). Written by Head.py. -/
import Derived.Test.YtfnjijnaogbgmaaProg
import Derived.JoinedOf
import Derived.KernelRfl
namespace Go.Proofs.Ytfnjijnaogbgmaa
open Go
def headOne : List Char := ([104, 97, 114, 110, 101, 115, 115] : List Nat).map Char.ofNat
def headTwo : List Char := ([101, 99, 99, 97, 48, 57, 53, 102, 98, 54, 53, 55, 100, 54, 53, 52, 49, 55, 50, 49, 52, 52, 99, 52, 55, 97, 101, 100, 48, 48, 97, 56, 50, 51, 99, 100, 100, 56, 56, 98, 51, 53, 57, 57, 48, 52, 49, 56, 57, 52, 100, 51, 100, 52, 48, 50, 53, 50, 102, 53, 56, 48, 54, 51] : List Nat).map Char.ofNat
def headThree : List Char := ([99, 117, 116] : List Nat).map Char.ofNat
def headRest : List Char := ([97, 116, 32, 116, 105, 112, 115, 116, 97, 102, 102, 47, 116, 105, 112, 115, 116, 97, 102, 102, 108, 97, 119, 48, 53, 46, 82, 105, 110, 103, 70, 105, 110, 100, 115] : List Nat).map Char.ofNat
def headL : List Char := headOne ++ Char.ofNat 32 :: (headTwo ++ Char.ofNat 32 :: (headThree ++ Char.ofNat 32 :: headRest))
theorem head_is : Try.prog.initOrder = String.ofList headL := by kernel_rfl
theorem head_list : Try.prog.initOrder.toList = headL := by rw [head_is]; exact String.toList_ofList
theorem words_step : ∀ (w r : List Char), w.all (fun c => c != Char.ofNat 32) = true → wordsSigns (w ++ Char.ofNat 32 :: r) = w :: wordsSigns r
  | [], r, _ => rfl
  | c :: w, r, h => by
    simp only [List.all_cons, Bool.and_eq_true] at h
    have ih := words_step w r h.2
    have hc : c ≠ Char.ofNat 32 := bne_iff_ne.1 h.1
    rw [List.cons_append, wordsSigns, ih]
    exact hc
theorem head_words : wordsSigns Try.prog.initOrder.toList = headOne :: headTwo :: headThree :: wordsSigns headRest := by
  rw [head_list]
  unfold headL
  rw [words_step _ _ (by kernel_rfl), words_step _ _ (by kernel_rfl), words_step _ _ (by kernel_rfl)]
theorem head_behind (W : List (List Char)) : behindMainWord (headOne :: headTwo :: headThree :: W) = headThree :: W := by
  unfold behindMainWord
  exact if_pos (by kernel_rfl)
theorem head_strip (W : List (List Char)) : stripLifts liftWords (headThree :: W) = ([], headThree :: W) := by kernel_rfl
theorem head_gc : (headThree == "gc".toList) = false := by kernel_rfl
theorem head_spec : (headThree == "spec".toList) = false := by kernel_rfl
theorem head_carried : (headThree == "carried".toList) = false := by kernel_rfl
theorem head_cut : (headThree == "cut".toList) = true := by kernel_rfl
theorem head_cut' : (some headThree == some "cut".toList) = true := by kernel_rfl
theorem head_carried' : (some headThree == some "carried".toList) = false := by kernel_rfl
theorem make_of {P : Program} {W : List (List Char)} (h : wordsSigns P.initOrder.toList = headOne :: headTwo :: headThree :: W) : P.make = some .cut := by
  unfold Program.make
  rw [h, head_behind]
  simp only [head_gc, head_spec, head_cut, Bool.or_false, Bool.false_eq_true, if_false, Bool.true_or, if_true]
theorem lifts_of {P : Program} {W : List (List Char)} (h : wordsSigns P.initOrder.toList = headOne :: headTwo :: headThree :: W) : P.liftsFinal = false := by
  unfold Program.liftsFinal Program.headLifts
  rw [h, head_behind, head_strip]
  simp only [List.head?_cons, head_carried', Bool.false_and, head_cut', if_true, Bool.false_or]
  rfl
theorem may_of {P : Program} {W : List (List Char)} (h : wordsSigns P.initOrder.toList = headOne :: headTwo :: headThree :: W) (h1 : P.laysLater = false) (h2 : P.bearsReflect = false) (h3 : P.doorFits [] = true) : P.mayEnter = true := by
  unfold Program.mayEnter
  rw [h, head_behind]
  simp only [head_strip, head_gc, head_spec, head_carried, List.head?_cons, head_cut', h1, h2, h3, Bool.or_false, Bool.false_and, Bool.false_or, Bool.true_and, Bool.and_true, Bool.not_false, Bool.or_true]
  rfl
theorem make_cut : Try.prog.make = some .cut := make_of head_words
theorem lifts_not : Try.prog.liftsFinal = false := lifts_of head_words
theorem may_enter : Try.prog.mayEnter = true := may_of head_words (by kernel_rfl) (by kernel_rfl) (by kernel_rfl)
end Go.Proofs.Ytfnjijnaogbgmaa

/- The head of the program's dump, word by word: what the rows' closed facts look at (mayEnter, liftsFinal, make). Written by Head.py. -/
import Derived.Test.YtaijdhocmjnopaaProg
import Derived.JoinedOf
import Derived.KernelRfl
namespace Go.Proofs.Ytaijdhocmjnopaa
open Go
def headOne : List Char := ([104, 97, 114, 110, 101, 115, 115] : List Nat).map Char.ofNat
def headTwo : List Char := ([99, 51, 56, 99, 97, 54, 56, 101, 50, 48, 56, 99, 52, 101, 100, 54, 97, 98, 48, 53, 52, 51, 50, 53, 98, 102, 54, 54, 99, 99, 99, 54, 49, 101, 57, 97, 55, 57, 100, 102, 100, 49, 53, 101, 49, 53, 48, 49, 52, 49, 101, 57, 50, 54, 102, 56, 50, 55, 49, 55, 56, 55, 57, 102] : List Nat).map Char.ofNat
def headThree : List Char := ([99, 117, 116] : List Nat).map Char.ofNat
def headRest : List Char := ([97, 116, 32, 116, 105, 112, 115, 116, 97, 102, 102, 47, 116, 105, 112, 115, 116, 97, 102, 102, 108, 97, 119, 50, 57, 46, 65, 115, 115, 105, 103, 110, 83, 101, 114, 118, 101, 115, 32, 116,
  105, 112, 115, 116, 97, 102, 102, 47, 116, 105, 112, 115, 116, 97, 102, 102, 108, 97, 119, 50, 57, 46, 65, 115, 115, 105, 103, 110, 75, 110, 111, 119, 110, 32, 116, 105, 112, 115, 116, 97,
  102, 102, 47, 116, 105, 112, 115, 116, 97, 102, 102, 108, 97, 119, 50, 57, 46, 65, 115, 115, 105, 103, 110, 84, 117, 114, 110, 115, 32, 116, 105, 112, 115, 116, 97, 102, 102, 47, 116, 105,
  112, 115, 116, 97, 102, 102, 108, 97, 119, 50, 57, 46, 65, 115, 115, 105, 103, 110, 85, 114, 103, 101, 110, 116, 32, 116, 105, 112, 115, 116, 97, 102, 102, 47, 116, 105, 112, 115, 116, 97,
  102, 102, 108, 97, 119, 50, 57, 46, 65, 115, 115, 105, 103, 110, 83, 104, 97, 114, 101, 115, 32, 116, 105, 112, 115, 116, 97, 102, 102, 47, 116, 105, 112, 115, 116, 97, 102, 102, 108, 97,
  119, 50, 57, 46, 65, 115, 115, 105, 103, 110, 70, 101, 119, 101, 114, 32, 116, 105, 112, 115, 116, 97, 102, 102, 47, 116, 105, 112, 115, 116, 97, 102, 102, 108, 97, 119, 50, 57, 46, 65,
  115, 115, 105, 103, 110, 80, 108, 97, 110, 115] : List Nat).map Char.ofNat
def headL : List Char := headOne ++ Char.ofNat 32 :: (headTwo ++ Char.ofNat 32 :: (headThree ++ Char.ofNat 32 :: headRest))
theorem head_is : Try.prog.initOrder = String.ofList headL := by kernel_rfl
theorem head_list : Try.prog.initOrder.toList = headL := by rw [head_is]; exact String.toList_ofList
theorem words_step : ∀ (w r : List Char), w.all (fun c => c != Char.ofNat 32) = true → wordsSigns (w ++ Char.ofNat 32 :: r) = w :: wordsSigns r
  | [], r, _ => rfl
  | c :: w, r, h => by
    simp only [List.all_cons, Bool.and_eq_true] at h
    have ih := words_step w r h.2
    have hc : c ≠ Char.ofNat 32 := bne_iff_ne.1 h.1
    rw [List.cons_append, wordsSigns, ih]
    exact hc
theorem head_words : wordsSigns Try.prog.initOrder.toList = headOne :: headTwo :: headThree :: wordsSigns headRest := by
  rw [head_list]
  unfold headL
  rw [words_step _ _ (by kernel_rfl), words_step _ _ (by kernel_rfl), words_step _ _ (by kernel_rfl)]
theorem head_behind (W : List (List Char)) : behindMainWord (headOne :: headTwo :: headThree :: W) = headThree :: W := by
  unfold behindMainWord
  exact if_pos (by kernel_rfl)
theorem head_strip (W : List (List Char)) : stripLifts liftWords (headThree :: W) = ([], headThree :: W) := by kernel_rfl
theorem head_gc : (headThree == "gc".toList) = false := by kernel_rfl
theorem head_spec : (headThree == "spec".toList) = false := by kernel_rfl
theorem head_carried : (headThree == "carried".toList) = false := by kernel_rfl
theorem head_cut : (headThree == "cut".toList) = true := by kernel_rfl
theorem head_cut' : (some headThree == some "cut".toList) = true := by kernel_rfl
theorem head_carried' : (some headThree == some "carried".toList) = false := by kernel_rfl
theorem make_of {P : Program} {W : List (List Char)} (h : wordsSigns P.initOrder.toList = headOne :: headTwo :: headThree :: W) : P.make = some .cut := by
  unfold Program.make
  rw [h, head_behind]
  simp only [head_gc, head_spec, head_cut, Bool.or_false, Bool.false_eq_true, if_false, Bool.true_or, if_true]
theorem lifts_of {P : Program} {W : List (List Char)} (h : wordsSigns P.initOrder.toList = headOne :: headTwo :: headThree :: W) : P.liftsFinal = false := by
  unfold Program.liftsFinal Program.headLifts
  rw [h, head_behind, head_strip]
  simp only [List.head?_cons, head_carried', Bool.false_and, head_cut', if_true, Bool.false_or]
  rfl
theorem may_of {P : Program} {W : List (List Char)} (h : wordsSigns P.initOrder.toList = headOne :: headTwo :: headThree :: W) (h1 : P.laysLater = false) (h2 : P.bearsReflect = false) (h3 : P.doorFits [] = true) : P.mayEnter = true := by
  unfold Program.mayEnter
  rw [h, head_behind]
  simp only [head_strip, head_gc, head_spec, head_carried, List.head?_cons, head_cut', h1, h2, h3, Bool.or_false, Bool.false_and, Bool.false_or, Bool.true_and, Bool.and_true, Bool.not_false, Bool.or_true]
  rfl
theorem make_cut : Try.prog.make = some .cut := make_of head_words
theorem lifts_not : Try.prog.liftsFinal = false := lifts_of head_words
theorem may_enter : Try.prog.mayEnter = true := may_of head_words (by kernel_rfl) (by kernel_rfl) (by kernel_rfl)
end Go.Proofs.Ytaijdhocmjnopaa

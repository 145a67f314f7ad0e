/- Part 1 of L17: what the functions reckon, step by step, and plain laws. No condition. -/
import Derived.Test.YtdkabbjknclifaaProg
import Derived.JoinedOf
import Derived.KernelRfl
import Derived.Below
import Derived.Deep.Draws
import Derived.Deep.AppendLies
import Derived.Maps.AppendAt
import Derived.OwnWalk
import Derived.Laws.BytesArg
import Derived.Laws.MakeOwn
import Derived.Laws.OwnMore
import Derived.Deep.OwnRows
import Derived.Tactics
import Derived.Lib.ConvBytes
import Derived.Laws.Slices
import Derived.WalkKit
import Derived.RowKit3
import Derived.Deep.LoopGhost
import Derived.Deep.QuietTactic
import Derived.BigQuiet
import Derived.WideLaws
import Derived.Deep.DeepCutAuto
import Derived.Deep.CutBlock
import Derived.Deep.RegionHeld3
import Derived.Laws.Rows
import Derived.Lib.AppendStr
import Derived.ArgAppend
import Derived.Laws.IdiomCopy
import Derived.OrdersHeld
import Derived.Laws.BitsLemmas
import Derived.RowKit
import Derived.Test.YtdkabbjknclifaaWWords
import Derived.Test.YtdkabbjknclifaaWLast
import Derived.Test.YtdkabbjknclifaaWTab
import Derived.Test.YtdkabbjknclifaaWQPut
import Derived.Test.YtdkabbjknclifaaWApart
import Derived.Test.YtdkabbjknclifaaWArr
import Derived.Test.YtdkabbjknclifaaWZeros
import Derived.Test.YtdkabbjknclifaaWFoot
import Derived.Test.YtdkabbjknclifaaWKept
import Derived.Test.YtdkabbjknclifaaWShare
import Derived.Test.YtdkabbjknclifaaWN
import Derived.Test.YtdkabbjknclifaaWEqStruct
import Derived.Test.YtdkabbjknclifaaWRepsOne
import Derived.Test.YtdkabbjknclifaaWGuard
import Derived.Test.YtdkabbjknclifaaWNEv
import Derived.Test.YtdkabbjknclifaaWMore
import Derived.Shelf.Bits.Mul64
import Derived.Laws.CopyOwn
import Derived.RangeFuncNested
import Derived.RangeFuncBound
import Derived.RangeFuncCalls
import Derived.RangeFuncLeaves
import Derived.Shelf.Abstract
import Derived.Shelf.RegionOpen
import Derived.OwnWalkIn
import Derived.TacticsInMore
import Derived.LoopNIn
import Derived.LoopIn
import Derived.Lib.SliceRun
import Derived.Shelf.Strings.Builder1
import Derived.Shelf.Strings.BuilderF
import Derived.Shelf.Strings.BuilderK
import Derived.Lib.OthersKept
import Derived.Test.YtdkabbjknclifaaRows
import Derived.ProofKit
import Derived.OpenShut
import Derived.ShutString
import Derived.ChangeOld
import Derived.SizedLaws
section
namespace Go.Proofs.Ytdkabbjknclifaa
open Go
def headOne : List Char := ([104, 97, 114, 110, 101, 115, 115] : List Nat).map Char.ofNat
end Go.Proofs.Ytdkabbjknclifaa
end
section
namespace Go.Proofs.Ytdkabbjknclifaa
open Go
def headTwo : List Char := ([56, 53, 99, 53, 51, 99, 53, 101, 54, 97, 48, 51, 53, 50, 97, 100, 99, 52, 102, 55, 53, 56, 52, 53, 53, 97, 102, 48, 56, 52, 99, 57, 98, 52, 51, 50, 100, 50, 97, 49, 56, 56, 50, 50, 48, 56, 56, 48, 57, 49, 51, 50, 99, 56, 97, 101, 98, 99, 97, 54, 99, 48, 51, 51] : List Nat).map Char.ofNat
end Go.Proofs.Ytdkabbjknclifaa
end
section
namespace Go.Proofs.Ytdkabbjknclifaa
open Go
def headThree : List Char := ([99, 117, 116] : List Nat).map Char.ofNat
end Go.Proofs.Ytdkabbjknclifaa
end
section
namespace Go.Proofs.Ytdkabbjknclifaa
open Go
def headRest : List Char := ([97, 116, 32, 116, 105, 112, 115, 116, 97, 102, 102, 47, 116, 105, 112, 115, 116, 97, 102, 102, 108, 97, 119, 49, 55, 46, 76, 111, 99, 107, 82, 101, 97, 100, 115, 32, 116, 105, 112, 115,
  116, 97, 102, 102, 47, 116, 105, 112, 115, 116, 97, 102, 102, 108, 97, 119, 49, 55, 46, 76, 111, 99, 107, 76, 111, 111, 107, 115, 32, 116, 105, 112, 115, 116, 97, 102, 102, 47, 116, 105,
  112, 115, 116, 97, 102, 102, 108, 97, 119, 49, 55, 46, 76, 111, 99, 107, 84, 117, 114, 110, 115, 32, 116, 105, 112, 115, 116, 97, 102, 102, 47, 116, 105, 112, 115, 116, 97, 102, 102, 108,
  97, 119, 49, 55, 46, 76, 111, 99, 107, 85, 110, 100, 111, 32, 116, 105, 112, 115, 116, 97, 102, 102, 47, 116, 105, 112, 115, 116, 97, 102, 102, 108, 97, 119, 49, 55, 46, 76, 111, 99,
  107, 86, 97, 108, 105, 100, 32, 116, 105, 112, 115, 116, 97, 102, 102, 47, 116, 105, 112, 115, 116, 97, 102, 102, 108, 97, 119, 49, 55, 46, 76, 111, 99, 107, 66, 97, 99, 107, 32, 116,
  105, 112, 115, 116, 97, 102, 102, 47, 116, 105, 112, 115, 116, 97, 102, 102, 108, 97, 119, 49, 55, 46, 76, 111, 99, 107, 75, 110, 111, 119, 110] : List Nat).map Char.ofNat
end Go.Proofs.Ytdkabbjknclifaa
end
section
namespace Go.Proofs.Ytdkabbjknclifaa
open Go
def headL : List Char := headOne ++ Char.ofNat 32 :: (headTwo ++ Char.ofNat 32 :: (headThree ++ Char.ofNat 32 :: headRest))
end Go.Proofs.Ytdkabbjknclifaa
end
section
namespace Go.Proofs.Ytdkabbjknclifaa
open Go
theorem head_is : Try.prog.initOrder = String.ofList headL := by kernel_rfl
end Go.Proofs.Ytdkabbjknclifaa
end
section
namespace Go.Proofs.Ytdkabbjknclifaa
open Go
theorem head_list : Try.prog.initOrder.toList = headL := by rw [head_is]; exact String.toList_ofList
end Go.Proofs.Ytdkabbjknclifaa
end
section
namespace Go.Proofs.Ytdkabbjknclifaa
open Go
theorem words_step : ∀ (w r : List Char), w.all (fun c => c != Char.ofNat 32) = true → wordsSigns (w ++ Char.ofNat 32 :: r) = w :: wordsSigns r
  | [], r, _ => rfl
  | c :: w, r, h => by
    simp only [List.all_cons, Bool.and_eq_true] at h
    have ih := words_step w r h.2
    have hc : c ≠ Char.ofNat 32 := bne_iff_ne.1 h.1
    rw [List.cons_append, wordsSigns, ih]
    exact hc
end Go.Proofs.Ytdkabbjknclifaa
end
section
namespace Go.Proofs.Ytdkabbjknclifaa
open Go
theorem head_words : wordsSigns Try.prog.initOrder.toList = headOne :: headTwo :: headThree :: wordsSigns headRest := by
  rw [head_list]
  unfold headL
  rw [words_step _ _ (by kernel_rfl), words_step _ _ (by kernel_rfl), words_step _ _ (by kernel_rfl)]
end Go.Proofs.Ytdkabbjknclifaa
end
section
namespace Go.Proofs.Ytdkabbjknclifaa
open Go
theorem head_behind (W : List (List Char)) : behindMainWord (headOne :: headTwo :: headThree :: W) = headThree :: W := by
  unfold behindMainWord
  exact if_pos (by kernel_rfl)
end Go.Proofs.Ytdkabbjknclifaa
end
section
namespace Go.Proofs.Ytdkabbjknclifaa
open Go
theorem head_strip (W : List (List Char)) : stripLifts liftWords (headThree :: W) = ([], headThree :: W) := by kernel_rfl
end Go.Proofs.Ytdkabbjknclifaa
end
section
namespace Go.Proofs.Ytdkabbjknclifaa
open Go
theorem head_gc : (headThree == "gc".toList) = false := by kernel_rfl
end Go.Proofs.Ytdkabbjknclifaa
end
section
namespace Go.Proofs.Ytdkabbjknclifaa
open Go
theorem head_spec : (headThree == "spec".toList) = false := by kernel_rfl
end Go.Proofs.Ytdkabbjknclifaa
end
section
namespace Go.Proofs.Ytdkabbjknclifaa
open Go
theorem head_carried : (headThree == "carried".toList) = false := by kernel_rfl
end Go.Proofs.Ytdkabbjknclifaa
end
section
namespace Go.Proofs.Ytdkabbjknclifaa
open Go
theorem head_cut : (headThree == "cut".toList) = true := by kernel_rfl
end Go.Proofs.Ytdkabbjknclifaa
end
section
namespace Go.Proofs.Ytdkabbjknclifaa
open Go
theorem head_cut' : (some headThree == some "cut".toList) = true := by kernel_rfl
end Go.Proofs.Ytdkabbjknclifaa
end
section
namespace Go.Proofs.Ytdkabbjknclifaa
open Go
theorem head_carried' : (some headThree == some "carried".toList) = false := by kernel_rfl
end Go.Proofs.Ytdkabbjknclifaa
end
section
namespace Go.Proofs.Ytdkabbjknclifaa
open Go
theorem make_of {P : Program} {W : List (List Char)} (h : wordsSigns P.initOrder.toList = headOne :: headTwo :: headThree :: W) : P.make = some .cut := by
  unfold Program.make
  rw [h, head_behind]
  simp only [head_gc, head_spec, head_cut, Bool.or_false, Bool.false_eq_true, if_false, Bool.true_or, if_true]
end Go.Proofs.Ytdkabbjknclifaa
end
section
namespace Go.Proofs.Ytdkabbjknclifaa
open Go
theorem lifts_of {P : Program} {W : List (List Char)} (h : wordsSigns P.initOrder.toList = headOne :: headTwo :: headThree :: W) : P.liftsFinal = false := by
  unfold Program.liftsFinal Program.headLifts
  rw [h, head_behind, head_strip]
  simp only [List.head?_cons, head_carried', Bool.false_and, head_cut', if_true, Bool.false_or]
  rfl
end Go.Proofs.Ytdkabbjknclifaa
end
section
namespace Go.Proofs.Ytdkabbjknclifaa
open Go
theorem may_of {P : Program} {W : List (List Char)} (h : wordsSigns P.initOrder.toList = headOne :: headTwo :: headThree :: W) (h1 : P.laysLater = false) (h2 : P.bearsReflect = false) (h3 : P.doorFits [] = true) : P.mayEnter = true := by
  unfold Program.mayEnter
  rw [h, head_behind]
  simp only [head_strip, head_gc, head_spec, head_carried, List.head?_cons, head_cut', h1, h2, h3, Bool.or_false, Bool.false_and, Bool.false_or, Bool.true_and, Bool.and_true, Bool.not_false, Bool.or_true]
  rfl
end Go.Proofs.Ytdkabbjknclifaa
end
section
namespace Go.Proofs.Ytdkabbjknclifaa
open Go
theorem make_cut : Try.prog.make = some .cut := make_of head_words
end Go.Proofs.Ytdkabbjknclifaa
end
section
namespace Go.Proofs.Ytdkabbjknclifaa
open Go
theorem lifts_not : Try.prog.liftsFinal = false := lifts_of head_words
end Go.Proofs.Ytdkabbjknclifaa
end
section
namespace Go.Proofs.Ytdkabbjknclifaa
open Go
theorem may_enter : Try.prog.mayEnter = true := may_of head_words (by kernel_rfl) (by kernel_rfl) (by kernel_rfl)
end Go.Proofs.Ytdkabbjknclifaa
end
section
namespace Go.Proofs.Ytdkabbjknclifaa.F
open Go.RowKit Go.Proofs.YtdkabbjknclifaaW.PrintWords Go.Proofs.YtdkabbjknclifaaW.PrintLast Go.Proofs.YtdkabbjknclifaaW.PrintMore
attribute [local go_sem] max2_int min2_int max_two min_two max_three min_three max_four min_four
set_option linter.unusedVariables false
set_option linter.unusedSimpArgs false
theorem never_none : (none : Option Bool) ≠ some true := by simp
end Go.Proofs.Ytdkabbjknclifaa.F
end
section
namespace Go.Proofs.Ytdkabbjknclifaa.F
open Go.RowKit Go.Proofs.YtdkabbjknclifaaW.PrintWords Go.Proofs.YtdkabbjknclifaaW.PrintLast Go.Proofs.YtdkabbjknclifaaW.PrintMore
attribute [local go_sem] max2_int min2_int max_two min_two max_three min_three max_four min_four
set_option linter.unusedVariables false
set_option linter.unusedSimpArgs false
theorem never_false : (some false : Option Bool) ≠ some true := by simp
end Go.Proofs.Ytdkabbjknclifaa.F
end
section
namespace Go.Proofs.Ytdkabbjknclifaa.F
open Go.RowKit Go.Proofs.YtdkabbjknclifaaW.PrintWords Go.Proofs.YtdkabbjknclifaaW.PrintLast Go.Proofs.YtdkabbjknclifaaW.PrintMore
attribute [local go_sem] max2_int min2_int max_two min_two max_three min_three max_four min_four
set_option linter.unusedVariables false
set_option linter.unusedSimpArgs false
theorem never_ite {c : Prop} [Decidable c] {a b : Option Bool} (h1 : a ≠ some true) (h2 : b ≠ some true) : (if c then a else b) ≠ some true := by split <;> assumption
end Go.Proofs.Ytdkabbjknclifaa.F
end
section
namespace Go.Proofs.Ytdkabbjknclifaa.F
open Go.RowKit Go.Proofs.YtdkabbjknclifaaW.PrintWords Go.Proofs.YtdkabbjknclifaaW.PrintLast Go.Proofs.YtdkabbjknclifaaW.PrintMore
attribute [local go_sem] max2_int min2_int max_two min_two max_three min_three max_four min_four
set_option linter.unusedVariables false
set_option linter.unusedSimpArgs false
theorem never_bind {α : Type} {o : Option α} {f : α → Option Bool} (h : ∀ x, f x ≠ some true) : o.bind f ≠ some true := by
  cases o with
  | none => simp
  | some x => exact h x
end Go.Proofs.Ytdkabbjknclifaa.F
end
section
namespace Go.Proofs.Ytdkabbjknclifaa.F
open Go.RowKit Go.Proofs.YtdkabbjknclifaaW.PrintWords Go.Proofs.YtdkabbjknclifaaW.PrintLast Go.Proofs.YtdkabbjknclifaaW.PrintMore
attribute [local go_sem] max2_int min2_int max_two min_two max_three min_three max_four min_four
set_option linter.unusedVariables false
set_option linter.unusedSimpArgs false
def errW : Option Int → Value
  | none => .nilIface
  | some c => .iface 0 (.int .i64 c)
end Go.Proofs.Ytdkabbjknclifaa.F
end
section
namespace Go.Proofs.Ytdkabbjknclifaa.F
open Go.RowKit Go.Proofs.YtdkabbjknclifaaW.PrintWords Go.Proofs.YtdkabbjknclifaaW.PrintLast Go.Proofs.YtdkabbjknclifaaW.PrintMore
attribute [local go_sem] max2_int min2_int max_two min_two max_three min_three max_four min_four
set_option linter.unusedVariables false
set_option linter.unusedSimpArgs false
theorem errW_none : errW none = .nilIface := rfl
end Go.Proofs.Ytdkabbjknclifaa.F
end
section
namespace Go.Proofs.Ytdkabbjknclifaa.F
open Go.RowKit Go.Proofs.YtdkabbjknclifaaW.PrintWords Go.Proofs.YtdkabbjknclifaaW.PrintLast Go.Proofs.YtdkabbjknclifaaW.PrintMore
attribute [local go_sem] max2_int min2_int max_two min_two max_three min_three max_four min_four
set_option linter.unusedVariables false
set_option linter.unusedSimpArgs false
theorem errW_some (c : Int) : errW (some c) = .iface 0 (.int .i64 c) := rfl
end Go.Proofs.Ytdkabbjknclifaa.F
end
section
namespace Go.Proofs.Ytdkabbjknclifaa.F
open Go.RowKit Go.Proofs.YtdkabbjknclifaaW.PrintWords Go.Proofs.YtdkabbjknclifaaW.PrintLast Go.Proofs.YtdkabbjknclifaaW.PrintMore
attribute [local go_sem] max2_int min2_int max_two min_two max_three min_three max_four min_four
set_option linter.unusedVariables false
set_option linter.unusedSimpArgs false
theorem info3 : (Try.prog.info? 3).map (fun i => (i.zero, i.size, i.bytes)) = some (some (.int .i64 0), 1, 8) := by kernel_rfl
end Go.Proofs.Ytdkabbjknclifaa.F
end
section
namespace Go.Proofs.Ytdkabbjknclifaa.F
open Go.RowKit Go.Proofs.YtdkabbjknclifaaW.PrintWords Go.Proofs.YtdkabbjknclifaaW.PrintLast Go.Proofs.YtdkabbjknclifaaW.PrintMore
attribute [local go_sem] max2_int min2_int max_two min_two max_three min_three max_four min_four
set_option linter.unusedVariables false
set_option linter.unusedSimpArgs false
theorem info4 : (Try.prog.info? 4).map (fun i => (i.zero, i.size, i.bytes)) = some (some (.bool false), 1, 1) := by kernel_rfl
end Go.Proofs.Ytdkabbjknclifaa.F
end
section
-- Written by fork.py (this session's program over the kit's print.py). Not trusted: Lean checks it.
namespace Go.Proofs.Ytdkabbjknclifaa.F
open Go.RowKit Go.Proofs.YtdkabbjknclifaaW.PrintWords Go.Proofs.YtdkabbjknclifaaW.PrintLast Go.Proofs.YtdkabbjknclifaaW.PrintMore
attribute [local go_sem] max2_int min2_int max_two min_two max_three min_three max_four min_four
set_option linter.unusedVariables false
set_option linter.unusedSimpArgs false

/-! ### lock_Check: function 28 -/
mutual
def lock_Check.j0 : Nat → Bool → Bool → List Bool → Option (Int)
  | 0, _, _, _ => none
  | k + 1, x15, x102000, x102001 => if x15 = true then (some 2) else (lock_Check.l0 k 0 x102001 (x102001.length : Int) 0 x102000 x102001)
def lock_Check.l0 : Nat → Int → List Bool → Int → Int → Bool → List Bool → Option (Int)
  | 0, _, _, _, _, _, _ => none
  | k + 1, x3, x17, x18, x19, x102000, x102001 => if x19 < x18 then (if 0 ≤ x19 then (if x19 < (x17.length : Int) then (if rdOf false x17 x19 = true then (lock_Check.l0 k x3 x17 x18 (wrap64 (x19 + 1)) x102000 x102001) else (lock_Check.l0 k (wrap64 (x3 + 1)) x17 x18 (wrap64 (x19 + 1)) x102000 x102001)) else (none)) else (none)) else (if x3 > 1 then (some 9) else (if x3 = 1 then (if x102000 = true then (some 9) else (some 0)) else (some 0)))
end
def lock_Check.f (k : Nat) (a0_0 : Bool) (l0_1 : List Bool) : Option (Int) := if (l0_1.length : Int) < 2 then (lock_Check.j0 k true a0_0 l0_1) else (lock_Check.j0 k (decide ((l0_1.length : Int) > 64)) a0_0 l0_1)
theorem lock_Check.mono_l : ∀ k, (∀ y0 y1 y2, LeO (lock_Check.j0 k y0 y1 y2) (lock_Check.j0 (k + 1) y0 y1 y2)) ∧ (∀ y0 y1 y2 y3 y4 y5, LeO (lock_Check.l0 k y0 y1 y2 y3 y4 y5) (lock_Check.l0 (k + 1) y0 y1 y2 y3 y4 y5))
  | 0 => ⟨fun _ _ _ r h => by simp [lock_Check.j0] at h, fun _ _ _ _ _ _ r h => by simp [lock_Check.l0] at h⟩
  | k + 1 => by
    obtain ⟨ih0, ih1⟩ := lock_Check.mono_l k
    refine ⟨?_, ?_⟩
    · intro y0 y1 y2
      unfold lock_Check.j0
      repeat' first
      | (with_reducible exact ih0 _ _ _)
      | (with_reducible exact ih1 _ _ _ _ _ _)
      | (with_reducible exact LeO.refl _)
      | (with_reducible exact LeO.none _)
      | (with_reducible refine LeO.ite ?_ ?_)
      | (with_reducible refine LeO.bind ?_ (fun _ => ?_))
      | exact ih0 _ _ _
      | exact ih1 _ _ _ _ _ _
      | exact LeO.none _
      | refine LeO.ite ?_ ?_
      | refine LeO.bind ?_ (fun _ => ?_)
    · intro y0 y1 y2 y3 y4 y5
      unfold lock_Check.l0
      repeat' first
      | (with_reducible exact ih0 _ _ _)
      | (with_reducible exact ih1 _ _ _ _ _ _)
      | (with_reducible exact LeO.refl _)
      | (with_reducible exact LeO.none _)
      | (with_reducible refine LeO.ite ?_ ?_)
      | (with_reducible refine LeO.bind ?_ (fun _ => ?_))
      | exact ih0 _ _ _
      | exact ih1 _ _ _ _ _ _
      | exact LeO.none _
      | refine LeO.ite ?_ ?_
      | refine LeO.bind ?_ (fun _ => ?_)
theorem lock_Check.mono : ∀ a0 a1 k, LeO (lock_Check.f k a0 a1) (lock_Check.f (k + 1) a0 a1) := by
  intro a0 a1 k
  obtain ⟨ih0, ih1⟩ := lock_Check.mono_l k
  unfold lock_Check.f
  repeat' first
      | (with_reducible exact ih0 _ _ _)
      | (with_reducible exact ih1 _ _ _ _ _ _)
      | (with_reducible exact LeO.refl _)
      | (with_reducible exact LeO.none _)
      | (with_reducible refine LeO.ite ?_ ?_)
      | (with_reducible refine LeO.bind ?_ (fun _ => ?_))
      | exact ih0 _ _ _
      | exact ih1 _ _ _ _ _ _
      | exact LeO.none _
      | refine LeO.ite ?_ ?_
      | refine LeO.bind ?_ (fun _ => ?_)
set_option maxHeartbeats 8000000 in
set_option maxRecDepth 100000 in
theorem lock_Check.calls (k : Nat) (a0_0 : Bool) (A0_1 : Option Addr) (c0_1 : Nat) (l0_1 : List Bool) (r : Int) (w : World) (hr0_1 : Kd.C Kd.bool w A0_1 l0_1.length l0_1) (hc0_1 : l0_1.length ≤ c0_1) (h : lock_Check.f k a0_0 l0_1 = some r) :
    Calls Try.prog 28 #[.agg #[.bool a0_0, .slice A0_1 l0_1.length c0_1]] w fun e w' => e = .returned (.int .i64 r) ∧ Below w.heap.size w w' := by
  have hu25 := Try.underlying25
  have HR0_1 := Aside0.mk hr0_1
  have HC0_1 := Aside0.mk hc0_1
  clear hr0_1 hc0_1
  have HB := Aside0.mk (Below.refl w.heap.size w)
  have H : (if (l0_1.length : Int) < 2 then (lock_Check.j0 k true a0_0 l0_1) else (lock_Check.j0 k (decide ((l0_1.length : Int) > 64)) a0_0 l0_1)) = some r := h
  clear h
  have HC2 := Aside0.mk H
  clear H
  go_enter Try.func28, Try.ntmps28
  go_upto_region 1 with (first | ((with_reducible refine gate_dst (N := 1) rfl ?_); (try (refine gate_guard (by rfl) ?_; dsimp only)); refine box_event ?hg (N := 1) ?hd (cs := #[.bool a0_0, .slice A0_1 l0_1.length c0_1]) (t := 25) ?hr ?_; (case hd => rfl); (case hg => rfl); (case hr => first | (go_simp; done) | (go_simp; rfl)); intro gb101 hg w3 hbox hb; have n0_ := Aside0.mk (below_step (by repeat (first | (with_reducible first | exact HB.out | apply below_alloc | apply pw_below_drewN | apply below_drew1) | exact HB.out)) hb); have n1_ := Aside0.mk (hbox); have n2_ := Aside0.mk ((by rw [hg]; exact (below_size (by repeat (first | (with_reducible first | exact HB.out | apply below_alloc | apply pw_below_drewN | apply below_drew1) | exact HB.out))) : w.heap.size ≤ gb101)); have n3_ := Aside0.mk ((by rw [hg]; exact (below_size (by repeat (first | (with_reducible first | exact HB.out | apply below_alloc | apply pw_below_drewN | apply below_drew1) | exact HB.out))) : w.heap.size ≤ gb101)); clear HB; have HB := n0_; have BK101 := n1_; have GW101 := n2_; have GE101 := n3_; clear n0_ n1_ n2_ n3_; clear hb hbox hg))
  (try simp only [Act.put, List.setIfInBounds_toArray, List.set_cons_zero, List.set_cons_succ])
  go_cut [15] (fun v15 wc => ∃ (kq : Nat) (x15_1 : Bool), v15 = .bool x15_1 ∧ Aside0 (lock_Check.j0 kq x15_1 a0_0 l0_1 = some r) ∧ Aside0 (kq ≤ k) ∧ Aside0 (wc.heap[gb101]? = some (.cells #[.bool a0_0, (.slice A0_1 l0_1.length c0_1)] 25 (0, 0))) ∧ Aside0 (Below w.heap.size w wc))
  case first =>
    have H := HC2.out
    clear HC2
    by_cases c4 : (l0_1.length : Int) < 2
    · rw [if_pos c4] at H
      have c4b0 : decide ((l0_1.length : Int) < 2) = true := decide_eq_true c4
      have c4b1 : decide (l0_1.length < 2) = true := decide_eq_true (by omega)
      clear c4
      (first | rw [c4b0] | (simp only [i64_w, i32_w]; rw [c4b0]) | skip)
      have H' := Aside0.mk H
      clear H
      have hcz5_0 : w3.cell? ⟨gb101, 0, none⟩ = some (.bool a0_0) := (blk_cell BK101.out 0).trans rfl
      have hcz5_1 : w3.cell? ⟨gb101, 1, none⟩ = some (.slice A0_1 l0_1.length c0_1) := (blk_cell BK101.out 1).trans rfl
      have hfz5_0 := blk_frozen BK101.out 0
      have hfz5_1 := blk_frozen BK101.out 1
      go_wp2
      go_meet
      case rel => exact ⟨_, (true), (by first | rfl | (simp; done) | (simp [*]; done)), H', ⟨by first | omega | exact Nat.le_refl _⟩, ⟨by (with_reducible repeat (first | refine blk_drewN ?_ _ | refine blk_drew ?_ | refine blk_alloc ?_ _)); exact BK101.out⟩, ⟨by repeat (first | (with_reducible first | exact HB.out | apply below_alloc | apply pw_below_drewN | apply below_drew1 | refine below_set ?_ GE101.out) | exact HB.out)⟩⟩
    · rw [if_neg c4] at H
      have c4b0 : decide ((l0_1.length : Int) < 2) = false := decide_eq_false c4
      have c4b1 : decide (l0_1.length < 2) = false := decide_eq_false (by omega)
      clear c4
      (first | rw [c4b0] | (simp only [i64_w, i32_w]; rw [c4b0]) | skip)
      have H' := Aside0.mk H
      clear H
      have hcz6_0 : w3.cell? ⟨gb101, 0, none⟩ = some (.bool a0_0) := (blk_cell BK101.out 0).trans rfl
      have hcz6_1 : w3.cell? ⟨gb101, 1, none⟩ = some (.slice A0_1 l0_1.length c0_1) := (blk_cell BK101.out 1).trans rfl
      have hfz6_0 := blk_frozen BK101.out 0
      have hfz6_1 := blk_frozen BK101.out 1
      go_wp2
      go_meet
      case rel => exact ⟨_, (decide ((l0_1.length : Int) > 64)), (by first | rfl | (simp; done) | (simp [*]; done)), H', ⟨by first | omega | exact Nat.le_refl _⟩, ⟨by (with_reducible repeat (first | refine blk_drewN ?_ _ | refine blk_drew ?_ | refine blk_alloc ?_ _)); exact BK101.out⟩, ⟨by repeat (first | (with_reducible first | exact HB.out | apply below_alloc | apply pw_below_drewN | apply below_drew1 | refine below_set ?_ GE101.out) | exact HB.out)⟩⟩
  case rest =>
    clear HC2
    try clear c2
    try clear p2
    try clear c4
    try clear c4b0
    try clear c4b1
    try clear hcz5_0
    try clear hcz5_1
    try clear hcz6_0
    try clear hcz6_1
    try clear hfz5_0
    try clear hfz5_1
    try clear hfz6_0
    try clear hfz6_1
    obtain ⟨kq, x15_1, rfl, HA, HJ1, BK101, HB⟩ := hcut
    cases kq with
    | zero => exact absurd HA.out (by simp [lock_Check.j0])
    | succ kj1 =>
      have H := HA.out
      clear HA
      simp only [lock_Check.j0] at H
      by_cases c7 : x15_1 = true
      · subst c7
        have H1 : (some 2) = some r := by rw [if_pos rfl] at H; exact H
        clear H
        have H := H1
        clear H1
        obtain rfl := Option.some.inj H
        go_wp2
        all_goals go_ret
        all_goals exact ⟨by first | rfl | (simp [errW_none, errW_some] <;> rfl) | (simp [*, errW_none, errW_some] <;> rfl), by repeat (first | (with_reducible first | exact HB.out | apply below_alloc | apply pw_below_drewN | apply below_drew1 | refine below_set ?_ GE101.out) | exact HB.out)⟩
      · replace c7 := Bool.eq_false_iff.mpr c7
        subst c7
        have H1 : (lock_Check.l0 kj1 0 l0_1 (l0_1.length : Int) 0 a0_0 l0_1) = some r := by rw [if_neg (show ¬ (false = true) by decide)] at H; exact H
        clear H
        have H := H1
        clear H1
        have H' := Aside0.mk H
        clear H
        have hcz8_0 : wc.cell? ⟨gb101, 0, none⟩ = some (.bool a0_0) := (blk_cell BK101.out 0).trans rfl
        have hcz8_1 : wc.cell? ⟨gb101, 1, none⟩ = some (.slice A0_1 l0_1.length c0_1) := (blk_cell BK101.out 1).trans rfl
        have hfz8_0 := blk_frozen BK101.out 0
        have hfz8_1 := blk_frozen BK101.out 1
        go_wp2
        go_loopg [3, 19] kj1 (fun kq v3 v19 w' => ∃ (x3_2 : Int) (x19_2 : Int), v3 = .int .i64 x3_2 ∧ v19 = .int .i64 x19_2 ∧ Aside0 (lock_Check.l0 kq x3_2 l0_1 (l0_1.length : Int) x19_2 a0_0 l0_1 = some r) ∧ Aside0 (kq ≤ kj1) ∧ Aside0 (w'.heap[gb101]? = some (.cells #[.bool a0_0, (.slice A0_1 l0_1.length c0_1)] 25 (0, 0))) ∧ Aside0 (Below w.heap.size w w'))
        case atStart => exact ⟨(0), (0), (by first | rfl | (simp; done) | (simp [*]; done)), (by first | rfl | (simp; done) | (simp [*]; done)), H', ⟨Nat.le_refl _⟩, ⟨by (with_reducible repeat (first | refine blk_drewN ?_ _ | refine blk_drew ?_ | refine blk_alloc ?_ _)); exact BK101.out⟩, ⟨by repeat (first | (with_reducible first | exact HB.out | apply below_alloc | apply pw_below_drewN | apply below_drew1 | refine below_set ?_ GE101.out) | exact HB.out)⟩⟩
        case round =>
          clear H'
          try clear c2
          try clear p2
          try clear c4
          try clear c4b0
          try clear c4b1
          try clear c7
          try clear hcz5_0
          try clear hcz5_1
          try clear hcz6_0
          try clear hcz6_1
          try clear hcz8_0
          try clear hcz8_1
          try clear hfz5_0
          try clear hfz5_1
          try clear hfz6_0
          try clear hfz6_1
          try clear hfz8_0
          try clear hfz8_1
          try clear p2
          obtain ⟨x3_2, x19_2, rfl, rfl, HA, HK2, BK101, HB⟩ := hrel
          cases gk with
          | zero => exact absurd HA.out (by simp [lock_Check.l0])
          | succ k2 =>
            have H := HA.out
            clear HA
            simp only [lock_Check.l0] at H
            by_cases c9 : x19_2 < (l0_1.length : Int)
            · rw [if_pos c9] at H
              have c9b0 : decide (x19_2 < (l0_1.length : Int)) = true := decide_eq_true c9
              clear c9
              by_cases c10 : 0 ≤ x19_2
              rotate_left
              · rw [if_neg c10] at H
                exact absurd H (by simp)
              rw [if_pos c10] at H
              have c10b0 : decide (0 ≤ x19_2) = true := decide_eq_true c10
              clear c10
              by_cases c11 : x19_2 < (l0_1.length : Int)
              rotate_left
              · rw [if_neg c11] at H
                exact absurd H (by simp)
              rw [if_pos c11] at H
              have c11b0 : decide (x19_2 < (l0_1.length : Int)) = true := decide_eq_true c11
              clear c11
              obtain ⟨bq12, hbq12⟩ : ∃ b_ : Bool, b_ = (rdOf false l0_1 x19_2) := ⟨_, rfl⟩
              replace H : (if bq12 = true then (lock_Check.l0 k2 x3_2 l0_1 (l0_1.length : Int) (wrap64 (x19_2 + 1)) a0_0 l0_1) else (lock_Check.l0 k2 (wrap64 (x3_2 + 1)) l0_1 (l0_1.length : Int) (wrap64 (x19_2 + 1)) a0_0 l0_1)) = some r := by rw [← hbq12] at H; exact H
              have Nbq12 := Aside0.mk hbq12
              clear hbq12
              by_cases c13 : bq12 = true
              · subst c13
                have H1 : (lock_Check.l0 k2 x3_2 l0_1 (l0_1.length : Int) (wrap64 (x19_2 + 1)) a0_0 l0_1) = some r := by rw [if_pos rfl] at H; exact H
                clear H
                have H := H1
                clear H1
                have H' := Aside0.mk H
                clear H
                have p102 : 0 ≤ (x19_2 : Int) := of_decide_eq_true (by first | (with_reducible assumption) | assumption)
                have q102 : x19_2 < (l0_1.length : Int) := of_decide_eq_true (by first | (with_reducible assumption) | assumption)
                obtain ⟨ad102, e102, hx102_0⟩ := Kd.at_bool HR0_1.out x19_2 p102 q102
                (try rw [← Nbq12.out] at hx102_0)
                cases e102
                replace hx102_0 := (HB.out.cell (World.block_lt_of_cell? w _ hx102_0)).trans hx102_0
                replace p102 := eq_true p102
                replace q102 := eq_true q102
                go_wp2
                go_roundg k2
                case measure => have := HJ1.out; have := HK2.out; omega
                case rel => exact ⟨(x3_2), (wrap64 (x19_2 + 1)), (by first | rfl | (simp; done) | (simp [*]; done)), (by first | rfl | (simp; done) | (simp [*]; done)), H', ⟨by have := HJ1.out; have := HK2.out; omega⟩, ⟨by (with_reducible repeat (first | refine blk_drewN ?_ _ | refine blk_drew ?_ | refine blk_alloc ?_ _)); exact BK101.out⟩, ⟨by repeat (first | (with_reducible first | exact HB.out | apply below_alloc | apply pw_below_drewN | apply below_drew1 | refine below_set ?_ GE101.out) | exact HB.out)⟩⟩
              · replace c13 := Bool.eq_false_iff.mpr c13
                subst c13
                have H1 : (lock_Check.l0 k2 (wrap64 (x3_2 + 1)) l0_1 (l0_1.length : Int) (wrap64 (x19_2 + 1)) a0_0 l0_1) = some r := by rw [if_neg (show ¬ (false = true) by decide)] at H; exact H
                clear H
                have H := H1
                clear H1
                have H' := Aside0.mk H
                clear H
                have p102 : 0 ≤ (x19_2 : Int) := of_decide_eq_true (by first | (with_reducible assumption) | assumption)
                have q102 : x19_2 < (l0_1.length : Int) := of_decide_eq_true (by first | (with_reducible assumption) | assumption)
                obtain ⟨ad102, e102, hx102_0⟩ := Kd.at_bool HR0_1.out x19_2 p102 q102
                (try rw [← Nbq12.out] at hx102_0)
                cases e102
                replace hx102_0 := (HB.out.cell (World.block_lt_of_cell? w _ hx102_0)).trans hx102_0
                replace p102 := eq_true p102
                replace q102 := eq_true q102
                go_wp2
                go_roundg k2
                case measure => have := HJ1.out; have := HK2.out; omega
                case rel => exact ⟨(wrap64 (x3_2 + 1)), (wrap64 (x19_2 + 1)), (by first | rfl | (simp; done) | (simp [*]; done)), (by first | rfl | (simp; done) | (simp [*]; done)), H', ⟨by have := HJ1.out; have := HK2.out; omega⟩, ⟨by (with_reducible repeat (first | refine blk_drewN ?_ _ | refine blk_drew ?_ | refine blk_alloc ?_ _)); exact BK101.out⟩, ⟨by repeat (first | (with_reducible first | exact HB.out | apply below_alloc | apply pw_below_drewN | apply below_drew1 | refine below_set ?_ GE101.out) | exact HB.out)⟩⟩
            · rw [if_neg c9] at H
              have c9b0 : decide (x19_2 < (l0_1.length : Int)) = false := decide_eq_false c9
              clear c9
              by_cases c14 : x3_2 > 1
              · rw [if_pos c14] at H
                have c14b0 : decide (1 < x3_2) = true := decide_eq_true c14
                clear c14
                obtain rfl := Option.some.inj H
                go_wp2
                all_goals go_ret
                all_goals exact ⟨by first | rfl | (simp [errW_none, errW_some] <;> rfl) | (simp [*, errW_none, errW_some] <;> rfl), by repeat (first | (with_reducible first | exact HB.out | apply below_alloc | apply pw_below_drewN | apply below_drew1 | refine below_set ?_ GE101.out) | exact HB.out)⟩
              · rw [if_neg c14] at H
                have c14b0 : decide (1 < x3_2) = false := decide_eq_false c14
                clear c14
                by_cases c15 : x3_2 = 1
                · rw [if_pos c15] at H
                  have c15b0 : (x3_2 == 1) = true := beq_iff_eq.mpr c15
                  have c15b1 : (x3_2 != 1) = false := bne_eq_false_iff_eq.mpr c15
                  clear c15
                  by_cases c16 : a0_0 = true
                  · subst c16
                    have H1 : (some 9) = some r := by rw [if_pos rfl] at H; exact H
                    clear H
                    have H := H1
                    clear H1
                    obtain rfl := Option.some.inj H
                    have hcz17_0 : wr.cell? ⟨gb101, 0, none⟩ = some (.bool true) := (blk_cell BK101.out 0).trans rfl
                    have hcz17_1 : wr.cell? ⟨gb101, 1, none⟩ = some (.slice A0_1 l0_1.length c0_1) := (blk_cell BK101.out 1).trans rfl
                    have hfz17_0 := blk_frozen BK101.out 0
                    have hfz17_1 := blk_frozen BK101.out 1
                    go_wp2
                    all_goals go_ret
                    all_goals exact ⟨by first | rfl | (simp [errW_none, errW_some] <;> rfl) | (simp [*, errW_none, errW_some] <;> rfl), by repeat (first | (with_reducible first | exact HB.out | apply below_alloc | apply pw_below_drewN | apply below_drew1 | refine below_set ?_ GE101.out) | exact HB.out)⟩
                  · replace c16 := Bool.eq_false_iff.mpr c16
                    subst c16
                    have H1 : (some 0) = some r := by rw [if_neg (show ¬ (false = true) by decide)] at H; exact H
                    clear H
                    have H := H1
                    clear H1
                    obtain rfl := Option.some.inj H
                    have hcz18_0 : wr.cell? ⟨gb101, 0, none⟩ = some (.bool false) := (blk_cell BK101.out 0).trans rfl
                    have hcz18_1 : wr.cell? ⟨gb101, 1, none⟩ = some (.slice A0_1 l0_1.length c0_1) := (blk_cell BK101.out 1).trans rfl
                    have hfz18_0 := blk_frozen BK101.out 0
                    have hfz18_1 := blk_frozen BK101.out 1
                    go_wp2
                    all_goals go_ret
                    all_goals exact ⟨by first | rfl | (simp [errW_none, errW_some] <;> rfl) | (simp [*, errW_none, errW_some] <;> rfl), by repeat (first | (with_reducible first | exact HB.out | apply below_alloc | apply pw_below_drewN | apply below_drew1 | refine below_set ?_ GE101.out) | exact HB.out)⟩
                · rw [if_neg c15] at H
                  have c15b0 : (x3_2 == 1) = false := beq_eq_false_iff_ne.mpr c15
                  have c15b1 : (x3_2 != 1) = true := bne_iff_ne.mpr c15
                  obtain rfl := Option.some.inj H
                  go_wp2
                  all_goals go_ret
                  all_goals exact ⟨by first | rfl | (simp [errW_none, errW_some] <;> rfl) | (simp [*, errW_none, errW_some] <;> rfl), by repeat (first | (with_reducible first | exact HB.out | apply below_alloc | apply pw_below_drewN | apply below_drew1 | refine below_set ?_ GE101.out) | exact HB.out)⟩


end Go.Proofs.Ytdkabbjknclifaa.F
end
section
namespace Go.Proofs.Ytdkabbjknclifaa.F
open Go.RowKit Go.Proofs.YtdkabbjknclifaaW.PrintWords Go.Proofs.YtdkabbjknclifaaW.PrintLast Go.Proofs.YtdkabbjknclifaaW.PrintMore
/-- slices.Repeat of one true. -/
def slices_Repeat_bool_bool.f (l0 : List Bool) (a1 : Int) : Option (List Bool) := if l0 = [true] then (if 1 ≤ a1 then (if a1 ≤ 64 then some (List.replicate a1.toNat true) else none) else none) else none
end Go.Proofs.Ytdkabbjknclifaa.F
end
section
namespace Go.Proofs.Ytdkabbjknclifaa.F
open Go.RowKit Go.Proofs.YtdkabbjknclifaaW.PrintWords Go.Proofs.YtdkabbjknclifaaW.PrintLast Go.Proofs.YtdkabbjknclifaaW.PrintMore
def landings : Nat → List Bool → List (Int × Bool)
  | _, [] => []
  | i, x :: r => ((i : Int), x) :: landings (i + 1) r
end Go.Proofs.Ytdkabbjknclifaa.F
end
section
namespace Go.Proofs.Ytdkabbjknclifaa.F
open Go.RowKit Go.Proofs.YtdkabbjknclifaaW.PrintWords Go.Proofs.YtdkabbjknclifaaW.PrintLast Go.Proofs.YtdkabbjknclifaaW.PrintMore
/-- The contacts of a chain. -/
def contactsOf (b : Bool) (l : List Bool) : List (Int × Bool) := (-1, b) :: landings 0 l
end Go.Proofs.Ytdkabbjknclifaa.F
end
section
namespace Go.Proofs.Ytdkabbjknclifaa.F
open Go.RowKit Go.Proofs.YtdkabbjknclifaaW.PrintWords Go.Proofs.YtdkabbjknclifaaW.PrintLast Go.Proofs.YtdkabbjknclifaaW.PrintMore
def missStep (acc : List Int) (x : Int × Bool) : List Int := if x.2 = true then acc else acc ++ [x.1]
end Go.Proofs.Ytdkabbjknclifaa.F
end
section
namespace Go.Proofs.Ytdkabbjknclifaa.F
open Go.RowKit Go.Proofs.YtdkabbjknclifaaW.PrintWords Go.Proofs.YtdkabbjknclifaaW.PrintLast Go.Proofs.YtdkabbjknclifaaW.PrintMore
def missOf (l : List (Int × Bool)) : List Int := l.foldl missStep []
end Go.Proofs.Ytdkabbjknclifaa.F
end
section
namespace Go.Proofs.Ytdkabbjknclifaa.F
open Go.RowKit Go.Proofs.YtdkabbjknclifaaW.PrintWords Go.Proofs.YtdkabbjknclifaaW.PrintLast Go.Proofs.YtdkabbjknclifaaW.PrintMore
def lock_Missing.f (a0_0 : Bool) (l0_1 : List Bool) : Option (List Int × Int) :=
  (lock_Check.f 4096 a0_0 l0_1).bind fun e => if e = 0 then (if l0_1.length ≤ 64 then some (missOf (contactsOf a0_0 l0_1), 0) else none) else some ([], e)
end Go.Proofs.Ytdkabbjknclifaa.F
end
section
namespace Go.Proofs.Ytdkabbjknclifaa.F
open Go.RowKit Go.Proofs.YtdkabbjknclifaaW.PrintWords Go.Proofs.YtdkabbjknclifaaW.PrintLast Go.Proofs.YtdkabbjknclifaaW.PrintMore
def lock_Unlock.f (a0_0 : Bool) (l0_1 : List Bool) (a1 : Int) : Option (Bool × List Bool × Int) :=
  (lock_Check.f 4096 a0_0 l0_1).bind fun e => if e = 0 then (if a1 < 0 then some (false, [], 2) else if (l0_1.length : Int) ≤ a1 then some (false, [], 2) else
    if l0_1.length ≤ 64 then (if (missOf (contactsOf a0_0 l0_1)).length = 0 then some (false, l0_1.set a1.toNat false, 0) else some (false, [], 9)) else none) else some (false, [], e)
end Go.Proofs.Ytdkabbjknclifaa.F
end
section
namespace Go.Proofs.Ytdkabbjknclifaa.F
open Go.RowKit Go.Proofs.YtdkabbjknclifaaW.PrintWords Go.Proofs.YtdkabbjknclifaaW.PrintLast Go.Proofs.YtdkabbjknclifaaW.PrintMore
def writStep (acc : List UInt8) (x : Int × Bool) : List UInt8 := (if x.1 = 0 then acc ++ [124] else acc) ++ [if x.2 = true then 120 else 111]
end Go.Proofs.Ytdkabbjknclifaa.F
end
section
namespace Go.Proofs.Ytdkabbjknclifaa.F
open Go.RowKit Go.Proofs.YtdkabbjknclifaaW.PrintWords Go.Proofs.YtdkabbjknclifaaW.PrintLast Go.Proofs.YtdkabbjknclifaaW.PrintMore
def writOf (l : List (Int × Bool)) : List UInt8 := l.foldl writStep []
end Go.Proofs.Ytdkabbjknclifaa.F
end
section
namespace Go.Proofs.Ytdkabbjknclifaa.F
open Go.RowKit Go.Proofs.YtdkabbjknclifaaW.PrintWords Go.Proofs.YtdkabbjknclifaaW.PrintLast Go.Proofs.YtdkabbjknclifaaW.PrintMore
def lock_Text.f (a0_0 : Bool) (l0_1 : List Bool) : Option (ByteArray × Int) :=
  (lock_Check.f 4096 a0_0 l0_1).bind fun e => if e = 0 then (if l0_1.length ≤ 64 then some (⟨(writOf (contactsOf a0_0 l0_1)).toArray⟩, 0) else none) else some (⟨#[]⟩, e)
end Go.Proofs.Ytdkabbjknclifaa.F
end
section
namespace Go.Proofs
open Go.Shelf
open Go.RowKit Go.Lib in
def Try.lays212_ren : Go.Shelf.Ren := ⟨fun | 212 => 54 | 263 => 57 | 264 => 58 | n => n, fun | 46 => 86 | 51 => 92 | 146 => 93 | 53 => 95 | 148 => 96 | n => n, fun | n => n⟩
end Go.Proofs
end
section
namespace Go.Proofs
open Go.Shelf
open Go.RowKit Go.Lib in
theorem Try.lays212 : Go.Proofs.Lays.n212 Try.prog Try.lays212_ren := {
  mixed := by kernel_rfl
  f212 := Try.func54.trans (congrArg some (by kernel_rfl))
  f263 := Try.func57.trans (congrArg some (by kernel_rfl))
  f264 := Try.func58.trans (congrArg some (by kernel_rfl))
  t46 := Try.underlying86
  a46 := Try.isAgg86
  z46 := Try.sizeOf86
  v46 := Try.zeroValue86
  t51 := Try.underlying92
  a51 := Try.isAgg92
  z51 := Try.sizeOf92
  v51 := Try.zeroValue92
  t53 := Try.underlying95
  a53 := Try.isAgg95
  z53 := Try.sizeOf95
  v53 := Try.zeroValue95
  t146 := Try.underlying93
  a146 := Try.isAgg93
  z146 := Try.sizeOf93
  v146 := Try.zeroValue93
  t148 := Try.underlying96
  a148 := Try.isAgg96
  z148 := Try.sizeOf96
  v148 := Try.zeroValue96 }
end Go.Proofs
end
section
namespace Go.Proofs
open Go.Shelf
open Go.RowKit Go.Lib in
open Go.RowKit Go.Lib in
theorem Try.bits_Mul (x y : Nat) (hx : x < 18446744073709551616) (hy : y < 18446744073709551616) (w : World) :
    Calls Try.prog 54 #[.int .u64 x, .int .u64 y] w fun e w' => e = .returned (.tuple #[.int .u64 ((x * y / 18446744073709551616 : Nat) : Int), .int .u64 ((x * y % 18446744073709551616 : Nat) : Int)]) ∧ w' = w := Any.bits_Mul Try.lays212 x y hx hy w
end Go.Proofs
end
section
namespace Go.Proofs.Ytdkabbjknclifaa.F
open Go.RowKit Go.Proofs.YtdkabbjknclifaaW.PrintWords Go.Proofs.YtdkabbjknclifaaW.PrintLast Go.Proofs.YtdkabbjknclifaaW.PrintMore
attribute [local go_sem] Oper.semAt_some
set_option linter.unusedVariables false
set_option linter.unusedSimpArgs false
theorem mul_one (n : Nat) (hn : n ≤ 64) (w : World) : Calls Try.prog 54 #[.int .u64 1, .int .u64 n] w fun e w' => e = .returned (.tuple #[.int .u64 0, .int .u64 n]) ∧ w' = w := by
  have h := Try.bits_Mul 1 n (by decide) (by omega) w
  rw [Nat.one_mul, Nat.div_eq_of_lt (by omega), Nat.mod_eq_of_lt (by omega)] at h
  exact h
end Go.Proofs.Ytdkabbjknclifaa.F
end
section
namespace Go.Proofs.Ytdkabbjknclifaa.F
open Go.RowKit Go.Proofs.YtdkabbjknclifaaW.PrintWords Go.Proofs.YtdkabbjknclifaaW.PrintLast Go.Proofs.YtdkabbjknclifaaW.PrintMore
attribute [local go_sem] Oper.semAt_some
set_option linter.unusedVariables false
set_option linter.unusedSimpArgs false
theorem wrap_u64 (n : Nat) (hn : n ≤ 64) : IntKind.u64.wrap (n : Int) = n := by
  have h : (List.range 65).all (fun m => IntKind.u64.wrap (m : Int) == (m : Int)) = true := by kernel_rfl
  simpa using (List.all_eq_true.mp h) n (List.mem_range.mpr (by omega))
end Go.Proofs.Ytdkabbjknclifaa.F
end
section
namespace Go.Proofs.Ytdkabbjknclifaa.F
open Go.RowKit Go.Proofs.YtdkabbjknclifaaW.PrintWords Go.Proofs.YtdkabbjknclifaaW.PrintLast Go.Proofs.YtdkabbjknclifaaW.PrintMore
attribute [local go_sem] Oper.semAt_some
set_option linter.unusedVariables false
set_option linter.unusedSimpArgs false
theorem wrap_i64 (n : Nat) (hn : n ≤ 64) : IntKind.i64.wrap (n : Int) = n := by
  have h : (List.range 65).all (fun m => IntKind.i64.wrap (m : Int) == (m : Int)) = true := by kernel_rfl
  simpa using (List.all_eq_true.mp h) n (List.mem_range.mpr (by omega))
end Go.Proofs.Ytdkabbjknclifaa.F
end
section
namespace Go.Proofs.Ytdkabbjknclifaa.F
open Go.RowKit Go.Proofs.YtdkabbjknclifaaW.PrintWords Go.Proofs.YtdkabbjknclifaaW.PrintLast Go.Proofs.YtdkabbjknclifaaW.PrintMore
attribute [local go_sem] Oper.semAt_some
set_option linter.unusedVariables false
set_option linter.unusedSimpArgs false
/-- n cells, of which the first m are set. -/
def repRow (n m : Nat) : List Value := List.replicate m (.bool true) ++ List.replicate (n - m) (.bool false)
end Go.Proofs.Ytdkabbjknclifaa.F
end
section
namespace Go.Proofs.Ytdkabbjknclifaa.F
open Go.RowKit Go.Proofs.YtdkabbjknclifaaW.PrintWords Go.Proofs.YtdkabbjknclifaaW.PrintLast Go.Proofs.YtdkabbjknclifaaW.PrintMore
attribute [local go_sem] Oper.semAt_some
set_option linter.unusedVariables false
set_option linter.unusedSimpArgs false
theorem repRow_length (n m : Nat) (h : m ≤ n) : (repRow n m).length = n := by simp [repRow]; omega
end Go.Proofs.Ytdkabbjknclifaa.F
end
section
namespace Go.Proofs.Ytdkabbjknclifaa.F
open Go.RowKit Go.Proofs.YtdkabbjknclifaaW.PrintWords Go.Proofs.YtdkabbjknclifaaW.PrintLast Go.Proofs.YtdkabbjknclifaaW.PrintMore
attribute [local go_sem] Oper.semAt_some
set_option linter.unusedVariables false
set_option linter.unusedSimpArgs false
theorem splice_rep (n m k : Nat) (h : m + k ≤ n) : splice (repRow n m) m (List.replicate k (.bool true)) = repRow n (m + k) := by
  unfold splice repRow
  simp only [List.length_replicate]
  rw [List.take_left' (by simp), List.drop_append, List.drop_replicate, List.drop_replicate]
  have e1 : m - (m + k) = 0 := by omega
  have e2 : n - m - (m + k - (List.replicate m (Value.bool true)).length) = n - (m + k) := by simp; omega
  rw [e1, e2, List.replicate_zero, List.nil_append, ← List.append_assoc, List.replicate_append_replicate]
end Go.Proofs.Ytdkabbjknclifaa.F
end
section
namespace Go.Proofs.Ytdkabbjknclifaa.F
open Go.RowKit Go.Proofs.YtdkabbjknclifaaW.PrintWords Go.Proofs.YtdkabbjknclifaaW.PrintLast Go.Proofs.YtdkabbjknclifaaW.PrintMore
attribute [local go_sem] Oper.semAt_some
set_option linter.unusedVariables false
set_option linter.unusedSimpArgs false
theorem repRow_get (n m j : Nat) (h : j < m) : (repRow n m)[j]? = some (.bool true) := by
  unfold repRow
  rw [List.getElem?_append_left (by simp; omega)]
  simp [List.getElem?_replicate, h]
end Go.Proofs.Ytdkabbjknclifaa.F
end
section
namespace Go.Proofs.Ytdkabbjknclifaa.F
open Go.RowKit Go.Proofs.YtdkabbjknclifaaW.PrintWords Go.Proofs.YtdkabbjknclifaaW.PrintLast Go.Proofs.YtdkabbjknclifaaW.PrintMore
attribute [local go_sem] Oper.semAt_some
set_option linter.unusedVariables false
set_option linter.unusedSimpArgs false
theorem splice_one {w : World} {g n : Nat} (hn : 1 ≤ n) (h : Hid (w.heap[g]? = some (.cells (splice (repRow n 0) 0 [.bool true]).toArray 4 (0, 0)))) : w.heap[g]? = some (.cells (repRow n 1).toArray 4 (0, 0)) := by
  have e := splice_rep n 0 1 (by omega)
  simp only [List.replicate_one, Nat.zero_add] at e
  rw [e] at h
  exact h
end Go.Proofs.Ytdkabbjknclifaa.F
end
section
namespace Go.Proofs.Ytdkabbjknclifaa.F
open Go.RowKit Go.Proofs.YtdkabbjknclifaaW.PrintWords Go.Proofs.YtdkabbjknclifaaW.PrintLast Go.Proofs.YtdkabbjknclifaaW.PrintMore
attribute [local go_sem] Oper.semAt_some
set_option linter.unusedVariables false
set_option linter.unusedSimpArgs false
theorem src_one {w : World} {ad : Addr} {o : Obj} (hcell : w.cell? ad = some (.bool true)) : ∀ (j : Nat) (v : Value), [Value.bool true][j]? = some v → (w.alloc o).cell? (ad.add j) = some v := by
  intro j v hj
  match j, hj with
  | 0, hj =>
    simp at hj
    subst hj
    rw [Addr.add_zero']
    exact (((Below.refl _ w).alloc (Nat.le_refl _) _).cell (World.block_lt_of_cell? w _ hcell)).trans hcell
end Go.Proofs.Ytdkabbjknclifaa.F
end
section
namespace Go.Proofs.Ytdkabbjknclifaa.F
open Go.RowKit Go.Proofs.YtdkabbjknclifaaW.PrintWords Go.Proofs.YtdkabbjknclifaaW.PrintLast Go.Proofs.YtdkabbjknclifaaW.PrintMore
attribute [local go_sem] Oper.semAt_some
set_option linter.unusedVariables false
set_option linter.unusedSimpArgs false
theorem wrap_sum {m k : Nat} (h : m + k ≤ 64) : wrap64 ((m : Int) + k) = ((m + k : Nat) : Int) := by unfold wrap64; omega
end Go.Proofs.Ytdkabbjknclifaa.F
end
section
namespace Go.Proofs.Ytdkabbjknclifaa.F
open Go.RowKit Go.Proofs.YtdkabbjknclifaaW.PrintWords Go.Proofs.YtdkabbjknclifaaW.PrintLast Go.Proofs.YtdkabbjknclifaaW.PrintMore
attribute [local go_sem] Oper.semAt_some
set_option linter.unusedVariables false
set_option linter.unusedSimpArgs false
theorem big_no {n : Nat} (h : n ≤ 64) : decide ((9223372036854775807 : Int) < n) = false := decide_eq_false (by omega)
end Go.Proofs.Ytdkabbjknclifaa.F
end
section
namespace Go.Proofs.Ytdkabbjknclifaa.F
open Go.RowKit Go.Proofs.YtdkabbjknclifaaW.PrintWords Go.Proofs.YtdkabbjknclifaaW.PrintLast Go.Proofs.YtdkabbjknclifaaW.PrintMore
attribute [local go_sem] Oper.semAt_some
set_option linter.unusedVariables false
set_option linter.unusedSimpArgs false
theorem meas_lt {m k n : Nat} (hk : 1 ≤ k) (hkn : m + k ≤ n) (hw : wrap64 ((m : Int) + k) = ((m + k : Nat) : Int)) : n - (intOf (.int .i64 (wrap64 ((m : Int) + k)))).toNat < n - (intOf (.int .i64 (m : Int))).toNat := by
  rw [hw]; simp only [intOf]; omega
end Go.Proofs.Ytdkabbjknclifaa.F
end
section
namespace Go.Proofs.Ytdkabbjknclifaa.F
open Go.RowKit Go.Proofs.YtdkabbjknclifaaW.PrintWords Go.Proofs.YtdkabbjknclifaaW.PrintLast Go.Proofs.YtdkabbjknclifaaW.PrintMore
attribute [local go_sem] Oper.semAt_some
set_option linter.unusedVariables false
set_option linter.unusedSimpArgs false
theorem own_end {w : World} {g m : Nat} (h64 : m ≤ 64) (h : w.heap[g]? = some (.cells (repRow m m).toArray 4 (0, 0))) : w.ownsRow g 4 1 (.slice (some ⟨g, 0, none⟩) m m) (List.replicate (m : Int).toNat true).length (encs Value.bool (List.replicate (m : Int).toNat true)) :=
  ⟨by simp [encs], .inr ⟨g, m, _, by simp, Nat.le_refl _, h, by simp, by unfold maxLen; omega, by simp [repRow], by simp [repRow, encs]⟩⟩
end Go.Proofs.Ytdkabbjknclifaa.F
end
section
namespace Go.Proofs.Ytdkabbjknclifaa.F
open Go.RowKit Go.Proofs.YtdkabbjknclifaaW.PrintWords Go.Proofs.YtdkabbjknclifaaW.PrintLast Go.Proofs.YtdkabbjknclifaaW.PrintMore
attribute [local go_sem] Oper.semAt_some
set_option linter.unusedVariables false
set_option linter.unusedSimpArgs false
theorem copy_round {w wr : World} {n m : Nat} (hm : 1 ≤ m) (hmn : m < n) (hg : wr.heap[w.heap.size]? = some (.cells (repRow n m).toArray 4 (0, 0))) (hb : Below w.heap.size w wr) :
    ∃ k : Nat, 1 ≤ k ∧ m + k ≤ n ∧ ∃ W', (Builtin.copy_ #[23, 23] 3 #[.slice (some ⟨w.heap.size, m, none⟩) (n - m) (n - m), .slice (some ⟨w.heap.size, 0, none⟩) m n]).run Try.prog wr.drew = .ok (.int .i64 (k : Int)) W' ∧
      W'.heap[w.heap.size]? = some (.cells (repRow n (m + k)).toArray 4 (0, 0)) ∧ Below w.heap.size w W' := by
  have hgd : wr.drew.heap[w.heap.size]? = some (.cells (repRow n m).toArray 4 (0, 0)) := blk_drew hg
  have hk1 : 1 ≤ Nat.min m (n - m) := by show _; have e : Nat.min m (n - m) = min m (n - m) := rfl; rw [e, Nat.min_def]; split <;> omega
  have hk2 : m + Nat.min m (n - m) ≤ n := by show _; have e : Nat.min m (n - m) = min m (n - m) := rfl; rw [e, Nat.min_def]; split <;> omega
  have hk3 : Nat.min m (n - m) ≤ m := by show _; have e : Nat.min m (n - m) = min m (n - m) := rfl; rw [e, Nat.min_def]; split <;> omega
  generalize hk : Nat.min m (n - m) = k at hk1 hk2 hk3
  have h := run_copy_row Try.prog wr.drew 23 23 3 4 w.heap.size m (n - m) (n - m) ⟨w.heap.size, 0, none⟩ m n (repRow n m).toArray 4 (List.replicate k (.bool true)) Try.underlying23 (by kernel_rfl) hgd (by rw [List.length_replicate, hk])
    (fun j v hj => by
      have hj' : j < k ∧ v = .bool true := by
        rw [List.getElem?_replicate] at hj
        split at hj
        · exact ⟨by assumption, (Option.some.inj hj).symm⟩
        · cases hj
      obtain ⟨hj1, rfl⟩ := hj'
      have e : (⟨w.heap.size, 0, none⟩ : Addr).add j = ⟨w.heap.size, j, none⟩ := by unfold Addr.add; split <;> simp_all
      rw [e]
      have := repRow_get n m j (by omega)
      simp [World.cell?, hgd, this])
    (by rw [List.length_replicate]; simp [repRow_length n m (by omega)]; omega) (by intro v hv; rw [(List.mem_replicate.mp hv).2]; rfl)
  refine ⟨k, hk1, hk2, _, h.trans (by rw [List.length_replicate]; rfl), ?_, below_setRow (below_drew hb) (Nat.le_refl _) _⟩
  rw [setRow_heap wr.drew w.heap.size _ _ 4 _ hgd]
  have e := splice_rep n m k hk2
  unfold splice at e
  rw [← e]
  simp [List.append_assoc]
end Go.Proofs.Ytdkabbjknclifaa.F
end
section
namespace Go.Proofs.Ytdkabbjknclifaa.F
open Go.RowKit Go.Proofs.YtdkabbjknclifaaW.PrintWords Go.Proofs.YtdkabbjknclifaaW.PrintLast Go.Proofs.YtdkabbjknclifaaW.PrintMore
attribute [local go_sem] Oper.semAt_some
set_option linter.unusedVariables false
set_option linter.unusedSimpArgs false
set_option maxHeartbeats 4000000 in
set_option maxRecDepth 100000 in
theorem slices_Repeat_bool_bool.calls (A0 : Option Addr) (c0 : Nat) (l0 : List Bool) (a1 : Int) (r : List Bool) (w : World) (hr0 : Kd.C Kd.bool w A0 l0.length l0) (hc0 : l0.length ≤ c0) (h : slices_Repeat_bool_bool.f l0 a1 = some r) :
    Calls Try.prog 48 #[.slice A0 l0.length c0, .int .i64 a1] w fun e w' => ∃ v0_ : Value, e = .returned (v0_) ∧ Kd.R Kd.bool 4 w' w.heap.size (fun _ => True) v0_ r ∧ Below w.heap.size w w' := by
  unfold slices_Repeat_bool_bool.f at h
  by_cases hl : l0 = [true]
  case neg => rw [if_neg hl] at h; cases h
  rw [if_pos hl] at h
  by_cases h1 : 1 ≤ a1
  case neg => rw [if_neg h1] at h; cases h
  rw [if_pos h1] at h
  by_cases h64 : a1 ≤ 64
  case neg => rw [if_neg h64] at h; cases h
  rw [if_pos h64] at h
  obtain rfl := Option.some.inj h
  subst hl
  obtain ⟨n, rfl⟩ : ∃ n : Nat, a1 = n := ⟨a1.toNat, by omega⟩
  clear h
  have hn1 : 1 ≤ n := by omega
  have hn64 : n ≤ 64 := by omega
  obtain ⟨ad, rfl, hx⟩ := hr0.2.2 (by decide)
  have hcell : w.cell? ad = some (.bool true) := by
    obtain ⟨ad', e, hy⟩ := Kd.at_bool hr0 0 (by decide) (by decide)
    cases e
    simpa [rdOf, Addr.add_zero'] using hy
  clear hx hr0
  have hu23 := Try.underlying23
  have hu86 := Try.underlying86
  have d0 : decide ((n : Int) < 0) = false := decide_eq_false (by omega)
  have d1 := big_no hn64
  have HN1 := Aside0.mk hn1
  have HN64 := Aside0.mk hn64
  have hwn := wrap_u64 n hn64
  have hwi := wrap_i64 n hn64
  have hw1 : IntKind.u64.wrap 1 = 1 := by kernel_rfl
  clear h1 h64 hn1 hn64
  go_enter Try.func48, Try.ntmps48
  have hmk : ∀ W, (Instr.makeSlice 23 (.int .i64 (n : Int)) (.int .i64 (n : Int))).run Try.prog W = .ok (.slice (some ⟨W.heap.size, 0, none⟩) n n) (W.alloc (.cells (repRow n 0).toArray 4)) := by
    intro W
    have hinfo : (Try.prog.info? 4).map (fun i => (i.zero, i.size, i.bytes)) = some (some (.bool false), 1, 1) := info4
    obtain ⟨i0, hi, hz0, hz1, hz2⟩ := info_parts hinfo
    have hn := HN64.out
    have h := run_makeSlice W 23 4 i0 (.bool false) Try.underlying23 hi hz0 .i64 .i64 n n (by omega) (by omega) (by rw [hz1]; simp; omega) (by rw [hz2]; omega) (by omega)
    rw [h, hz1]
    have e : (madeCells (Value.bool false).cells (((n : Int).toNat) * 1)) = (repRow n 0).toArray := by
      apply Array.toList_inj.mp
      simp [repRow]
      exact toList_madeCells_one (.bool false) n
    rw [e]
    rfl
  go_upto_region 7 with (go_at_call 54; refine (mul_one n HN64.out _).mono ?_; rintro e w1 ⟨rfl, rfl⟩)
  go_wp2_with ((with_reducible refine gate_builtin (b := .copy) (xs := #[.tmp 31, .tmp 32]) rfl ?_); refine wpList_copy_splice rfl (.tmp 31) (.tmp 32) 23 23 rfl 4 Try.underlying23 (by kernel_rfl) _ _ _ _ _ _ rfl rfl w1.heap.size 0 (repRow n 0) 4 (blk_new w1 _) [.bool true] ?hn ?hpos ?hfit ?h1 w1.heap.size w1 ((Below.refl _ w1).alloc (Nat.le_refl _) _) (Nat.le_refl _) ?_; (case hn => (have := HN1.out; simp [Nat.min_def]; omega)); (case hpos => exact fun _ => ⟨rfl, ad, rfl, src_one hcell⟩); (case hfit => (have := HN1.out; rw [repRow_length n 0 (by omega)]; simpa using this)); (case h1 => intro v hv; simp at hv; subst hv; rfl); intro w2 hg2 hb2; have HG := Aside0.mk (show w2.heap[w1.heap.size]? = some (.cells (repRow n 1).toArray 4 (0, 0)) from splice_one HN1.out hg2); have HB := Aside0.mk hb2; clear hg2 hb2)
  go_loopw [8] (fun v wr => ∃ m : Nat, v = .int .i64 m ∧ 1 ≤ m ∧ m ≤ n ∧ Aside0 (wr.heap[w1.heap.size]? = some (.cells (repRow n m).toArray 4 (0, 0))) ∧ Aside0 (Below w1.heap.size w1 wr)) (fun v _ => n - (intOf v).toNat)
  case atStart => exact ⟨1, rfl, Nat.le_refl _, HN1.out, HG, HB⟩
  case round =>
    obtain ⟨m, rfl, hm1, hmn, HGR, HBR⟩ := hrel
    clear HG HB
    by_cases hlt : m < n
    · have d2 : decide ((m : Int) < n) = true := decide_eq_true (by omega)
      have hmx : Try.prog.follows .mixedOrders = true := by kernel_rfl
      have hmn' : (m : Int) ≤ n := by omega
      have hne : ¬ n = m := by omega
      have hne' : ¬ m = n := by omega
      go_upto_region 9 with (fail)
      obtain ⟨k, hk0, hkn, W', hcopy, hG', hB'⟩ := copy_round hm1 hlt HGR.out HBR.out
      have HG' := Aside0.mk hG'
      have HB' := Aside0.mk hB'
      clear hG' hB'
      go_region
      have hwk := wrap_sum (Nat.le_trans hkn HN64.out)
      go_wp2
      go_roundw
      case rel => exact ⟨m + k, congrArg (Value.int .i64) hwk, by omega, hkn, HG', HB'⟩
      case measure => exact meas_lt hk0 hkn hwk
    · obtain rfl : m = n := by omega
      have d2 : decide ((m : Int) < m) = false := decide_eq_false (by omega)
      go_wp2
      go_ret
      refine ⟨_, rfl, Kd.R_of_own (enc := Value.bool) (h1 := fun _ => rfl) ?_ (fun _ _ => trivial), HBR.out⟩
      exact own_end HN64.out HGR.out
end Go.Proofs.Ytdkabbjknclifaa.F
end
section
-- Written by fork.py (this session's program over the kit's print.py). Not trusted: Lean checks it.
namespace Go.Proofs.Ytdkabbjknclifaa.F
open Go.RowKit Go.Proofs.YtdkabbjknclifaaW.PrintWords Go.Proofs.YtdkabbjknclifaaW.PrintLast Go.Proofs.YtdkabbjknclifaaW.PrintMore
attribute [local go_sem] max2_int min2_int max_two min_two max_three min_three max_four min_four
set_option linter.unusedVariables false
set_option linter.unusedSimpArgs false

/-! ### lock_New: function 26 -/
def lock_New.f (a0 : Int) : Option (Bool × List Bool × Int) := if a0 < 2 then (some (false, ([] : List Bool), 2)) else (if a0 > 64 then (some (false, ([] : List Bool), 2)) else ((slices_Repeat_bool_bool.f (([true] : List Bool)) a0).bind fun t117 => (some (true, t117, 0))))
set_option maxHeartbeats 8000000 in
set_option maxRecDepth 100000 in
theorem lock_New.calls (a0 : Int) (r1 : Bool) (r2 : List Bool) (r3 : Int) (w : World) (h : lock_New.f a0 = some (r1, r2, r3)) :
    Calls Try.prog 26 #[.int .i64 a0] w fun e w' => ∃ v1_ : Value, e = .returned (.tuple #[.agg #[.bool r1, v1_], .int .i64 r3]) ∧ Kd.R Kd.bool 4 w' w.heap.size (fun _ => True) v1_ r2 ∧ Below w.heap.size w w' := by
  have hu25 := Try.underlying25
  have HB := Aside0.mk (Below.refl w.heap.size w)
  have H : (if a0 < 2 then (some (false, ([] : List Bool), 2)) else (if a0 > 64 then (some (false, ([] : List Bool), 2)) else ((slices_Repeat_bool_bool.f (([true] : List Bool)) a0).bind fun t117 => (some (true, t117, 0))))) = some (r1, r2, r3) := h
  clear h
  by_cases c2 : a0 < 2
  · rw [if_pos c2] at H
    have c2b0 : decide (a0 < 2) = true := decide_eq_true c2
    clear c2
    simp only [Option.some.injEq, Prod.mk.injEq] at H
    obtain ⟨rfl, rfl, rfl⟩ := H
    go_enter Try.func26, Try.ntmps26
    go_wp2_with (first | ((with_reducible refine gate_dst (N := 2) rfl ?_); refine box_event ?hg (N := 2) ?hd (cs := #[.bool false, .slice none 0 0]) (t := 25) ?hr ?_; (case hd => rfl); (case hg => rfl); (case hr => first | (go_simp; done) | (go_simp; rfl)); intro gb113 hg w3 hbox hb; have n0_ := Aside0.mk (below_step (by repeat (first | (with_reducible first | exact HB.out | apply below_alloc | apply pw_below_drewN | apply below_drew1) | exact HB.out)) hb); have n1_ := Aside0.mk (hbox); have n2_ := Aside0.mk ((by rw [hg]; exact (below_size (by repeat (first | (with_reducible first | exact HB.out | apply below_alloc | apply pw_below_drewN | apply below_drew1) | exact HB.out))) : w.heap.size ≤ gb113)); have n3_ := Aside0.mk ((by rw [hg]; exact (below_size (by repeat (first | (with_reducible first | exact HB.out | apply below_alloc | apply pw_below_drewN | apply below_drew1) | exact HB.out))) : w.heap.size ≤ gb113)); clear HB; have HB := n0_; have BK113 := n1_; have GW113 := n2_; have GE113 := n3_; clear n0_ n1_ n2_ n3_; clear hb hbox hg; have hcz4_0 : w3.cell? ⟨gb113, 0, none⟩ = some (.bool false) := (blk_cell BK113.out 0).trans rfl; have hcz4_1 : w3.cell? ⟨gb113, 1, none⟩ = some (.slice none 0 0) := (blk_cell BK113.out 1).trans rfl; have hfz4_0 := blk_frozen BK113.out 0; have hfz4_1 := blk_frozen BK113.out 1))
    all_goals refine bodyPost_ret (results_ct rfl _ _ gb113 25 #[.bool false, .slice none 0 0] (0, 0) _ rfl (by (with_reducible repeat (first | refine blk_drewN ?_ _ | refine blk_drew ?_ | refine blk_alloc ?_ _)); refine blk_put (cs := #[.bool false, .slice none 0 0]) ?_ 1 _ rfl; (with_reducible repeat (first | refine blk_drewN ?_ _ | refine blk_drew ?_ | refine blk_alloc ?_ _)); refine blk_put (cs := #[.bool false, .slice none 0 0]) ?_ 0 _ rfl; (with_reducible repeat (first | refine blk_drewN ?_ _ | refine blk_drew ?_ | refine blk_alloc ?_ _)); exact BK113.out) Try.underlying25 rfl (by kernel_rfl)) rfl ?_
    all_goals exact ⟨_, by first | rfl | (simp [errW_none, errW_some] <;> rfl) | (simp [*, errW_none, errW_some] <;> rfl), by first | exact Kd.R_nil _ _ _ _ _ | exact Kd.N_nil _ _ _ _ _ | exact Kd.V_nil _ _ _ _ _ | exact Kd.Q_nil _ _ _ _ _ | exact Kd.S_nil _ _ _ _ _, by repeat (first | (with_reducible first | exact HB.out | apply below_alloc | apply pw_below_drewN | apply below_drew1 | refine below_set ?_ GE113.out) | exact HB.out)⟩
  · rw [if_neg c2] at H
    have c2b0 : decide (a0 < 2) = false := decide_eq_false c2
    clear c2
    by_cases c5 : a0 > 64
    · rw [if_pos c5] at H
      have c5b0 : decide (64 < a0) = true := decide_eq_true c5
      clear c5
      simp only [Option.some.injEq, Prod.mk.injEq] at H
      obtain ⟨rfl, rfl, rfl⟩ := H
      go_enter Try.func26, Try.ntmps26
      go_wp2_with (first | ((with_reducible refine gate_dst (N := 2) rfl ?_); refine box_event ?hg (N := 2) ?hd (cs := #[.bool false, .slice none 0 0]) (t := 25) ?hr ?_; (case hd => rfl); (case hg => rfl); (case hr => first | (go_simp; done) | (go_simp; rfl)); intro gb113 hg w6 hbox hb; have n0_ := Aside0.mk (below_step (by repeat (first | (with_reducible first | exact HB.out | apply below_alloc | apply pw_below_drewN | apply below_drew1) | exact HB.out)) hb); have n1_ := Aside0.mk (hbox); have n2_ := Aside0.mk ((by rw [hg]; exact (below_size (by repeat (first | (with_reducible first | exact HB.out | apply below_alloc | apply pw_below_drewN | apply below_drew1) | exact HB.out))) : w.heap.size ≤ gb113)); have n3_ := Aside0.mk ((by rw [hg]; exact (below_size (by repeat (first | (with_reducible first | exact HB.out | apply below_alloc | apply pw_below_drewN | apply below_drew1) | exact HB.out))) : w.heap.size ≤ gb113)); clear HB; have HB := n0_; have BK113 := n1_; have GW113 := n2_; have GE113 := n3_; clear n0_ n1_ n2_ n3_; clear hb hbox hg; have hcz7_0 : w6.cell? ⟨gb113, 0, none⟩ = some (.bool false) := (blk_cell BK113.out 0).trans rfl; have hcz7_1 : w6.cell? ⟨gb113, 1, none⟩ = some (.slice none 0 0) := (blk_cell BK113.out 1).trans rfl; have hfz7_0 := blk_frozen BK113.out 0; have hfz7_1 := blk_frozen BK113.out 1))
      all_goals refine bodyPost_ret (results_ct rfl _ _ gb113 25 #[.bool false, .slice none 0 0] (0, 0) _ rfl (by (with_reducible repeat (first | refine blk_drewN ?_ _ | refine blk_drew ?_ | refine blk_alloc ?_ _)); refine blk_put (cs := #[.bool false, .slice none 0 0]) ?_ 1 _ rfl; (with_reducible repeat (first | refine blk_drewN ?_ _ | refine blk_drew ?_ | refine blk_alloc ?_ _)); refine blk_put (cs := #[.bool false, .slice none 0 0]) ?_ 0 _ rfl; (with_reducible repeat (first | refine blk_drewN ?_ _ | refine blk_drew ?_ | refine blk_alloc ?_ _)); exact BK113.out) Try.underlying25 rfl (by kernel_rfl)) rfl ?_
      all_goals exact ⟨_, by first | rfl | (simp [errW_none, errW_some] <;> rfl) | (simp [*, errW_none, errW_some] <;> rfl), by first | exact Kd.R_nil _ _ _ _ _ | exact Kd.N_nil _ _ _ _ _ | exact Kd.V_nil _ _ _ _ _ | exact Kd.Q_nil _ _ _ _ _ | exact Kd.S_nil _ _ _ _ _, by repeat (first | (with_reducible first | exact HB.out | apply below_alloc | apply pw_below_drewN | apply below_drew1 | refine below_set ?_ GE113.out) | exact HB.out)⟩
    · rw [if_neg c5] at H
      have c5b0 : decide (64 < a0) = false := decide_eq_false c5
      clear c5
      obtain ⟨y114, hy114⟩ : ∃ y_ : List Bool, y_ = (([true] : List Bool)) := ⟨_, rfl⟩
      replace H : ((slices_Repeat_bool_bool.f y114 a0).bind fun t117 => (some (true, t117, 0))) = some (r1, r2, r3) := by first | (rw [hy114]; with_reducible exact H) | (have H2_ := (Option.bind_some _ _).symm.trans H; rw [hy114]; with_reducible exact H2_) | (have H2_ := (Option.bind_some _ _).symm.trans H; with_reducible exact H2_) | with_reducible exact H | (rw [hy114]; exact H) | exact H
      have Ny114 := Aside0.mk hy114
      clear hy114
      replace H := Option.bind_eq_some_iff.mp H
      obtain ⟨t117, A80, H⟩ := H
      replace H : (some (true, t117, 0)) = some (r1, r2, r3) := H
      have A8 := Aside0.mk A80
      clear A80
      simp only [Option.some.injEq, Prod.mk.injEq] at H
      obtain ⟨rfl, rfl, rfl⟩ := H
      go_enter Try.func26, Try.ntmps26
      go_wp2_with (first | ((with_reducible refine gate_dst (N := 2) rfl ?_); refine box_event ?hg (N := 2) ?hd (cs := #[.bool false, .slice none 0 0]) (t := 25) ?hr ?_; (case hd => rfl); (case hg => rfl); (case hr => first | (go_simp; done) | (go_simp; rfl)); intro gb113 hg w9 hbox hb; have n0_ := Aside0.mk (below_step (by repeat (first | (with_reducible first | exact HB.out | apply below_alloc | apply pw_below_drewN | apply below_drew1) | exact HB.out)) hb); have n1_ := Aside0.mk (hbox); have n2_ := Aside0.mk ((by rw [hg]; exact (below_size (by repeat (first | (with_reducible first | exact HB.out | apply below_alloc | apply pw_below_drewN | apply below_drew1) | exact HB.out))) : w.heap.size ≤ gb113)); have n3_ := Aside0.mk ((by rw [hg]; exact (below_size (by repeat (first | (with_reducible first | exact HB.out | apply below_alloc | apply pw_below_drewN | apply below_drew1) | exact HB.out))) : w.heap.size ≤ gb113)); clear HB; have HB := n0_; have BK113 := n1_; have GW113 := n2_; have GE113 := n3_; clear n0_ n1_ n2_ n3_; clear hb hbox hg) | ((with_reducible refine gate_dst (N := 11) rfl ?_); refine Kd.R_lit Kd.bool _ 4 ?hg (N := 11) ?hd (xs := ([true] : List Bool)) (inner := [.bool true]) (ok := fun _ => True) (okp := fun _ => True) ?hr ?hp (fun _ hk => hk) trivial (Below.refl _ _) (Nat.le_refl _) (by simp) ?_; (case hd => rfl); (case hg => rfl); (case hr => first | (go_simp; done) | (go_simp; rfl)); (case hp => exact (Reps.one (show Kd.M Kd.bool _ _ _ true [.bool true] from rfl) (Reps.none _ _))); intro v115 w10 ho11 hb hg_ hnew_; clear hg_ hnew_; (first | rw [← Ny114.out] at ho11 | (simp only [Int.reduceToNat] at ho11; rw [← Ny114.out] at ho11)); have n0_ := Aside0.mk (Kd.R_lower ho11 (below_size (by repeat (first | (with_reducible first | exact HB.out | apply below_alloc | apply pw_below_drewN | apply below_drew1 | refine below_set ?_ GE113.out) | exact HB.out)))); have n1_ := Aside0.mk (blk_below (g := gb113) (o := .cells #[.bool false, .slice none 0 0] 25 (0, 0)) (by (with_reducible repeat (first | refine blk_drewN ?_ _ | refine blk_drew ?_ | refine blk_alloc ?_ _)); exact BK113.out) hb); have n2_ := Aside0.mk (below_step (by repeat (first | (with_reducible first | exact HB.out | apply below_alloc | apply pw_below_drewN | apply below_drew1 | refine below_set ?_ GE113.out) | exact HB.out)) hb); clear BK113; clear HB; have HO116 := n0_; have BK113 := n1_; have HB := n2_; clear n0_ n1_ n2_; clear hb ho11; obtain ⟨Ao12, co12, eo12⟩ := Kd.R_slice HO116.out; subst eo12) | ((with_reducible refine gate_callee (f := 48) rfl ?_); refine goesL_ (some 13) rfl rfl Try.func48 (by kernel_rfl) rfl #[.slice Ao12 y114.length co12, .int .i64 a0] rfl (by (try simp only [List.map_toArray, List.map_cons, List.map_nil]); first | done | rfl | (simp only [List.length_drop, List.length_take]; rfl)) ?_; (with_reducible refine (slices_Repeat_bool_bool.calls _ _ y114 a0 t117 _ ?side1 ?side2 A8.out).mono ?_); (case side1 => repeat (first | exact (Kd.R_reads' HO116.out).2.2 | (with_reducible refine Kd.C_alloc ?_ _) | (with_reducible refine Kd.C_drewN ?_ _) | (with_reducible refine Kd.C_drew ?_))); (case side2 => exact (Kd.R_reads' HO116.out).2.1); rintro e w13 ⟨v118, rfl, ho0, hb⟩; refine ⟨_, rfl, ?_⟩; have n0_ := Aside0.mk (Kd.R_elder' (by (with_reducible repeat (first | apply Kd.R_alloc | apply Kd.R_drewN | apply Kd.R_drew)); exact HO116.out) (Kd.R_base ho0) hb); have n1_ := Aside0.mk (Kd.R_lower (Kd.R_new' ho0 (Kd.R_lt (by (with_reducible repeat (first | apply Kd.R_alloc | apply Kd.R_drewN | apply Kd.R_drew)); exact HO116.out))) (below_size (by repeat (first | (with_reducible first | exact HB.out | apply below_alloc | apply pw_below_drewN | apply below_drew1 | refine below_set ?_ GE113.out) | exact HB.out)))); have n2_ := Aside0.mk (blk_below (g := gb113) (o := .cells #[.bool false, .slice none 0 0] 25 (0, 0)) (by (with_reducible repeat (first | refine blk_drewN ?_ _ | refine blk_drew ?_ | refine blk_alloc ?_ _)); exact BK113.out) hb); have n3_ := Aside0.mk (below_step (by repeat (first | (with_reducible first | exact HB.out | apply below_alloc | apply pw_below_drewN | apply below_drew1 | refine below_set ?_ GE113.out) | exact HB.out)) hb); clear HO116; clear BK113; clear HB; have HO116 := n0_; have HO119 := n1_; have BK113 := n2_; have HB := n3_; clear n0_ n1_ n2_ n3_; (try clear hb); (try clear hb2); (try clear hk); (try clear hi); (try clear ho0); obtain ⟨Ao14, co14, eo14⟩ := Kd.R_slice HO119.out; subst eo14; have hcz15_0 : w13.cell? ⟨gb113, 0, none⟩ = some (.bool false) := (blk_cell BK113.out 0).trans rfl; have hcz15_1 : w13.cell? ⟨gb113, 1, none⟩ = some (.slice none 0 0) := (blk_cell BK113.out 1).trans rfl; have hfz15_0 := blk_frozen BK113.out 0; have hfz15_1 := blk_frozen BK113.out 1))
      all_goals refine bodyPost_ret (results_ct rfl _ _ gb113 25 #[.bool true, .slice Ao14 t117.length co14] (0, 0) _ rfl (by (with_reducible repeat (first | refine blk_drewN ?_ _ | refine blk_drew ?_ | refine blk_alloc ?_ _)); refine blk_put (cs := #[.bool true, .slice none 0 0]) ?_ 1 _ rfl; (with_reducible repeat (first | refine blk_drewN ?_ _ | refine blk_drew ?_ | refine blk_alloc ?_ _)); refine blk_put (cs := #[.bool false, .slice none 0 0]) ?_ 0 _ rfl; (with_reducible repeat (first | refine blk_drewN ?_ _ | refine blk_drew ?_ | refine blk_alloc ?_ _)); exact BK113.out) Try.underlying25 rfl (by kernel_rfl)) rfl ?_
      all_goals exact ⟨_, by first | rfl | (simp [errW_none, errW_some] <;> rfl) | (simp [*, errW_none, errW_some] <;> rfl), by (with_reducible repeat (first | apply Kd.R_alloc | apply Kd.R_drewN | apply Kd.R_drew)); exact Kd.R_mono (Kd.R_far (p := ⟨gb113, 1, none⟩) (Kd.R_far (p := ⟨gb113, 0, none⟩) (Kd.R_types HO119.out BK113.out (by decide)) (fun _ hk => hk.2) (.bool true)) (fun _ hk => hk.2) (.slice Ao14 t117.length co14)) (fun _ hk => trivial), by repeat (first | (with_reducible first | exact HB.out | apply below_alloc | apply pw_below_drewN | apply below_drew1 | refine below_set ?_ GE113.out) | exact HB.out)⟩


end Go.Proofs.Ytdkabbjknclifaa.F
end
section
namespace Go.Proofs.Ytdkabbjknclifaa.F
open Go.RowKit
/-- B is A, but for the blocks that t names, and for what is new. -/
structure Turned (t : Nat → Prop) (A B : World) : Prop where
  os : B.os = A.os
  tape : B.tape = A.tape
  output : B.output = A.output
  size : A.heap.size ≤ B.heap.size
  block : ∀ k, k < A.heap.size → ¬ t k → B.heap[k]? = A.heap[k]?
end Go.Proofs.Ytdkabbjknclifaa.F
end
section
namespace Go.Proofs.Ytdkabbjknclifaa.F
open Go.RowKit
theorem Turned.refl (t : Nat → Prop) (A : World) : Turned t A A := ⟨rfl, rfl, rfl, Nat.le_refl _, fun _ _ _ => rfl⟩
end Go.Proofs.Ytdkabbjknclifaa.F
end
section
namespace Go.Proofs.Ytdkabbjknclifaa.F
open Go.RowKit
theorem Turned.trans {t : Nat → Prop} {A B C : World} (h : Turned t A B) (k : Turned t B C) : Turned t A C :=
  ⟨k.os.trans h.os, k.tape.trans h.tape, k.output.trans h.output, Nat.le_trans h.size k.size, fun i hi ht => (k.block i (Nat.lt_of_lt_of_le hi h.size) ht).trans (h.block i hi ht)⟩
end Go.Proofs.Ytdkabbjknclifaa.F
end
section
namespace Go.Proofs.Ytdkabbjknclifaa.F
open Go.RowKit
theorem Turned.mono {t t' : Nat → Prop} {A B : World} (h : Turned t A B) (ht : ∀ k, t k → t' k) : Turned t' A B := ⟨h.os, h.tape, h.output, h.size, fun k hk hn => h.block k hk (fun e => hn (ht k e))⟩
end Go.Proofs.Ytdkabbjknclifaa.F
end
section
namespace Go.Proofs.Ytdkabbjknclifaa.F
open Go.RowKit
theorem Turned.of_below {t : Nat → Prop} {A B : World} (h : Below A.heap.size A B) : Turned t A B := ⟨h.os, h.tape, h.output, h.size, fun k hk _ => h.block k hk⟩
end Go.Proofs.Ytdkabbjknclifaa.F
end
section
namespace Go.Proofs.Ytdkabbjknclifaa.F
open Go.RowKit
theorem Turned.below {t : Nat → Prop} {n : Nat} {A B : World} (h : Turned t A B) (hn : n ≤ A.heap.size) (ht : ∀ k, k < n → ¬ t k) : Below n A B := ⟨h.os, h.tape, h.output, h.size, fun k hk => h.block k (by omega) (ht k hk)⟩
end Go.Proofs.Ytdkabbjknclifaa.F
end
section
namespace Go.Proofs.Ytdkabbjknclifaa.F
open Go.RowKit
theorem Turned.of_grown {A B : World} {row : Option Nat} (h : A.grownBy B row) : Turned (fun k => some k = row) A B := ⟨h.os, h.tape, h.output, h.size, fun k hk hn => h.block k hk hn⟩
end Go.Proofs.Ytdkabbjknclifaa.F
end
section
namespace Go.Proofs.Ytdkabbjknclifaa.F
open Go.RowKit
theorem Turned.alloc {t : Nat → Prop} (A : World) (o : Obj) : Turned t A (A.alloc o) := (Turned.of_grown (World.grownBy_alloc A o none)).mono (fun k e => by cases e)
end Go.Proofs.Ytdkabbjknclifaa.F
end
section
namespace Go.Proofs.Ytdkabbjknclifaa.F
open Go.RowKit
theorem Turned.setCell (A : World) (p : Addr) (u : Value) : Turned (fun k => k = p.block) A (A.setCell p u) := ⟨rfl, rfl, rfl, by simp [World.setCell], fun k _ hn => Below.heap_setCell A p u k hn⟩
end Go.Proofs.Ytdkabbjknclifaa.F
end
section
namespace Go.Proofs.Ytdkabbjknclifaa.F
open Go.RowKit
theorem Turned.putObj (A : World) (l : Nat) (o : Obj) : Turned (fun k => k = l) A (A.putObj l o) :=
  (Turned.of_grown (grownBy_putObj' A l o)).mono (fun k e => by injection e)
end Go.Proofs.Ytdkabbjknclifaa.F
end
section
namespace Go.Proofs.Ytdkabbjknclifaa.F
open Go.RowKit
/-- THE ITERATOR's CONTRACT: it hands out res; J: what the caller says of what has come; O: the iterator's own blocks. -/
def IterMine {α : Type} (n : Nat) (P : Program) (gf : Nat) (lb : Array Value) (enc enc2 : α → Value) (keep : Nat → Prop) (N : Nat) (res : List α) (W : World) : Prop :=
  ∀ (l : Nat) (J : (Nat → Prop) → List α → World → Prop),
    (∀ O O' pre A B, J O pre A → Turned O A B → (∀ k, O k → O' k) → (∀ k, O' k → O k ∨ (A.heap.size ≤ k ∧ k < B.heap.size)) → J O' pre B) →
    (∀ O pre x W1, J O pre W1 → pre.length ≤ N → YieldAt Fence.wide (n - 1) P l #[enc x, enc2 x] W1 fun e W' =>
      e = .returned (.bool true) ∧ J O (pre ++ [x]) W' ∧ Turned (fun k => ¬ (keep k ∨ O k)) W1 W' ∧ ∀ k, keep k ∨ O k → k < W1.heap.size) →
    J (fun _ => False) [] W →
    CallsIn Fence.wide n P gf (#[.func (.yield l) #[] #[]] ++ lb) W fun e W' => (∃ v, e = .returned v) ∧ ∃ O, J O res W'
end Go.Proofs.Ytdkabbjknclifaa.F
end
section
namespace Go.Proofs.Ytdkabbjknclifaa.F
open Go.RowKit
/-- HOW A ROUND's BODY MAY BE LEFT: off its end. -/
def minePost {α : Type} (D l : Nat) (keep O : Nat → Prop) (I : (Nat → Prop) → List α → World → Prop) (xs : List α) (W W2 : World) : Exit → Act → World → Prop
  | .normal, _, W3 => W3.heap[l]? = W2.heap[l]? ∧ W3.heap[D]? = W2.heap[D]? ∧ I O xs W3 ∧ Turned (fun k => ¬ (keep k ∨ O k)) W W3
  | _, _, _ => False
end Go.Proofs.Ytdkabbjknclifaa.F
end
section
namespace Go.Proofs.Ytdkabbjknclifaa.F
open Go.RowKit
theorem wpIn_rangeFunc_mine {α : Type} {P : Program} {n : Nat} {g : Operand} {p q : Tmp} {assign body : Code} {Q : Exit → Act → World → Prop} {a : Act} {w : World} (h1 : 1 ≤ n)
    {gf : Nat} {lb : Array Value} (hg : a.eval g = .func (.func gf) #[] lb) (eg : ∀ args w, (callFunc gf args).run P w = .ok (.enter gf args) w)
    (enc enc2 : α → Value) (keep : Nat → Prop) (hkeep : ∀ k, keep k → k < w.heap.size) (N : Nat) (res : List α)
    (hseq : ∀ W, Below w.heap.size w W → W.heap.size = w.heap.size + 2 → IterMine (n - 1) P gf lb enc enc2 keep N res W)
    (I : (Nat → Prop) → List α → World → Prop)
    (hI : ∀ O O' pre A B, I O pre A → (∀ k, O k → w.heap.size + 2 ≤ k ∧ k < A.heap.size) → Turned (fun k => O k ∨ k = w.heap.size ∨ k = w.heap.size + 1) A B → (∀ k, O k → O' k) → (∀ k, O' k → O k ∨ (A.heap.size ≤ k ∧ k < B.heap.size)) → I O' pre B)
    (h0 : I (fun _ => False) [] w)
    (hround : ∀ (O : Nat → Prop) pre x W, I O pre W → pre.length ≤ N → (∀ k, O k → w.heap.size + 2 ≤ k ∧ k < W.heap.size) → w.heap.size + 2 ≤ W.heap.size →
      assign.wpIn (Fence.wide.inRound (w.heap.size + 1)) (n - 1 - 1) P (Exit.then (fun a1 W1 => W1.heap[w.heap.size + 1]? = W.heap[w.heap.size + 1]? ∧ W1.heap[w.heap.size]? = W.heap[w.heap.size]? ∧
        ∀ W2, Turned (fun k => k = w.heap.size + 1) W1 W2 → W2.heap.size = W1.heap.size → body.wpIn (Fence.wide.inRound (w.heap.size + 1)) (n - 1 - 1) P (minePost w.heap.size (w.heap.size + 1) keep O I (pre ++ [x]) W W2) a1 W2) (fun _ _ _ => False))
        { tmps := (a.tmps.setIfInBounds p (enc x)).setIfInBounds q (enc2 x), defers := [] } W)
    (hdone : ∀ O W, I O res W → (∀ k, O k → w.heap.size + 2 ≤ k ∧ k < W.heap.size) → W.heap[w.heap.size]? = some (.deferred (some [])) → Q .normal { a with defers := { target := .collected w.heap.size, args := #[] } :: a.defers } W) :
    (Code.rangeFunc g #[p, q] assign body).wpIn Fence.wide n P Q a w := by
  refine wpIn_rangeFunc ?_
  intro fn hfn
  obtain ⟨rec, hrec⟩ : ∃ rec : LoopState → Option Code → Loop, rec = fun st pe => { state := st, pending := pe, fn, tmps := a.tmps, params := #[p, q], assign, body, defers := w.heap.size } := ⟨_, rfl⟩
  obtain ⟨W1, hW1⟩ : ∃ W1, (w.alloc (.deferred (some []))).alloc (.loop (rec .ready none)) = W1 := ⟨_, rfl⟩
  have hs1 : W1.heap.size = w.heap.size + 2 := by rw [← hW1]; simp
  have hL1 : W1.heap[w.heap.size + 1]? = some (.loop (rec .ready none)) := by
    rw [← hW1]; have := World.alloc_heap_new (w.alloc (.deferred (some []))) (.loop (rec .ready none)); rwa [World.size_alloc] at this
  have hD1 : W1.heap[w.heap.size]? = some (.deferred (some [])) := by
    rw [← hW1]; exact (Below.heap_alloc _ _ _ (by simp)).trans (World.alloc_heap_new w _)
  have hb1 : Below w.heap.size w W1 := by
    rw [← hW1]; exact ((Below.refl _ w).alloc (Nat.le_refl _) _).alloc (by simp) _
  refine ⟨w.heap.size + 1, [{ target := .collected w.heap.size, args := #[] }], W1, { target := .fn (.func gf) lb, args := #[.func (.yield (w.heap.size + 1)) #[] #[]] }, W1, gf,
    #[.func (.yield (w.heap.size + 1)) #[] #[]] ++ lb, W1, ?_, ?_, fun _ _ => trivial, ?_, fun _ => h1, ?_⟩
  · rw [← hW1, hrec]; exact run_enterLoop_outer _ _ _ _ _
  · simp only [resolve, hg]
    simp [go_sem]
  · simp [invoke, go_sem, eg]
  · refine (hseq W1 hb1 hs1 (w.heap.size + 1)
      (fun O pre W => I O pre W ∧ (∀ k, O k → w.heap.size + 2 ≤ k ∧ k < W.heap.size) ∧ w.heap.size + 2 ≤ W.heap.size ∧ W.heap[w.heap.size + 1]? = some (.loop (rec .ready none)) ∧ W.heap[w.heap.size]? = some (.deferred (some [])))
      ?_ ?_ ⟨hI _ _ _ _ _ h0 (fun _ h => h.elim) (.of_below hb1) (fun _ h => h) (fun _ h => h.elim), fun _ h => h.elim, by omega, hL1, hD1⟩).mono ?_
    · rintro O O' pre A B ⟨hi, hO, hz, hl, hd⟩ ht hup hnew
      refine ⟨hI _ _ _ _ _ hi hO (ht.mono fun k h => .inl h) hup hnew, fun k hk => ?_, Nat.le_trans hz ht.size, (ht.block _ (by omega) fun h => by have := hO _ h; omega).trans hl, (ht.block _ (by omega) fun h => by have := hO _ h; omega).trans hd⟩
      rcases hnew k hk with h | h
      · have := hO k h; have := ht.size; omega
      · omega
    · rintro O pre x W ⟨hi, hO, hz, hl, hd⟩ hlen
      have hy := run_yield (P := P) (args := #[enc x, enc2 x]) hl (by rw [hrec]; rfl)
      rw [hrec] at hy
      refine ⟨fn, _, assign, body, hy, roundIn_of_wpIn hfn ?_⟩
      have hr := hround O pre x W hi hlen hO hz
      refine wpIn_mono (by simpa using hr) ?_
      rintro e a1 Wa hp
      cases e with
      | normal =>
        obtain ⟨hla, hda, hbody⟩ := hp
        have hl' := hla.trans hl
        refine ⟨_, run_beginRound hl' (by rw [hrec]), ?_⟩
        have hlt : w.heap.size + 1 < Wa.heap.size := (Array.getElem?_eq_some_iff.1 hl').1
        refine wpIn_mono (hbody _ (Turned.putObj _ _ _) (by simp [World.putObj])) ?_
        rintro e a3 W3 hp
        cases e with
        | normal =>
          obtain ⟨hl3, hd3, hi3, ht3⟩ := hp
          have hl4 : W3.heap[w.heap.size + 1]? = some (.loop { rec .ready none with state := .busy }) := hl3.trans (World.putObj_heap_same hlt)
          have hd4 : W3.heap[w.heap.size]? = some (.deferred (some [])) := hd3.trans ((World.putObj_heap_other (by omega)).trans (hda.trans hd))
          have hend := run_endRound (P := P) none hl4
          rw [hrec] at hend
          have hO3 : ∀ k, O k → w.heap.size + 2 ≤ k ∧ k < W3.heap.size := fun k hk => ⟨(hO k hk).1, Nat.lt_of_lt_of_le (hO k hk).2 ht3.size⟩
          refine ⟨_, _, hend, rfl, ⟨hI _ _ _ _ _ hi3 hO3 ((Turned.putObj _ _ _).mono (fun k h => .inr (.inr h))) (fun _ h => h) (fun _ h => .inl h), fun k hk => ?_, ?_, ?_, (World.putObj_heap_other (by omega)).trans hd4⟩, ht3.trans ((Turned.putObj _ _ _).mono fun k h => ?_), fun k h => ?_⟩
          · have := hO3 k hk; simpa [World.putObj] using this
          · have := ht3.size; simp [World.putObj]; omega
          · rw [hrec]; exact World.putObj_heap_same (Array.getElem?_eq_some_iff.1 hl4).1
          · subst h
            rintro (h | h)
            · have := hkeep _ h; omega
            · have := (hO _ h).1; omega
          · rcases h with h | h
            · have := hkeep _ h; omega
            · exact (hO _ h).2
        | _ => exact hp.elim
      | _ => exact hp.elim
    · rintro e W2 ⟨⟨v, rfl⟩, O, hi, hO, hz, hl, hd⟩
      refine ⟨none, _, by have := run_endLoop (P := P) hl (by rw [hrec]; simp); rw [hrec] at this; exact this, hdone O _ (hI _ _ _ _ _ hi hO ((Turned.putObj _ _ _).mono (fun k h => .inr (.inr h))) (fun _ h => h) (fun _ h => .inl h)) (fun k hk => by have := hO k hk; simpa [World.putObj] using this) ((World.putObj_heap_other (by omega)).trans hd)⟩
end Go.Proofs.Ytdkabbjknclifaa.F
end
section
namespace Go.Proofs.Ytdkabbjknclifaa.F
open Go.RowKit Go.Shelf Go.Proofs.YtdkabbjknclifaaW.PrintWords Go.Proofs.YtdkabbjknclifaaW.PrintLast Go.Proofs.YtdkabbjknclifaaW.PrintMore
attribute [local go_sem] Oper.semAt_some
set_option linter.unusedVariables false
set_option linter.unusedSimpArgs false
theorem landings_step {l : List Bool} {i : Nat} (h : i < l.length) : landings i (l.drop i) = ((i : Int), rdOf false l i) :: landings (i + 1) (l.drop (i + 1)) := by
  have e : rdOf false l i = l[i] := by simp [rdOf, List.getD_eq_getElem?_getD, List.getElem?_eq_getElem h]
  rw [e, List.drop_eq_getElem_cons h, landings]
end Go.Proofs.Ytdkabbjknclifaa.F
end
section
namespace Go.Proofs.Ytdkabbjknclifaa.F
open Go.RowKit Go.Shelf Go.Proofs.YtdkabbjknclifaaW.PrintWords Go.Proofs.YtdkabbjknclifaaW.PrintLast Go.Proofs.YtdkabbjknclifaaW.PrintMore
attribute [local go_sem] Oper.semAt_some
set_option linter.unusedVariables false
set_option linter.unusedSimpArgs false
set_option maxHeartbeats 1000000 in
set_option maxRecDepth 100000 in
/-- contacts: its parameter is boxed; the function value captures the box. -/
theorem contacts_in (n : Nat) (x y : Value) (w : World) (hx : x.cells = #[x]) (hy : y.cells = #[y]) :
    CallsIn Fence.wide n Try.prog 44 #[.agg #[x, y]] w fun e w' => e = .returned (.func (.func 52) #[] #[.pointer (some ⟨w.heap.size, 0, none⟩)]) ∧ w' = w.alloc (.cells #[x, y] 64) := by
  have hu64 := Try.underlying64
  have hu25 := Try.underlying25
  refine callsIn_of_wp Try.func44 rfl trivial ?_ rfl
  simp only [Try.ntmps44, List.size_toArray, List.length_cons, List.length_nil, Nat.reduceAdd, Nat.reduceSub, Array.replicate_succ, Array.replicate_zero, List.push_toArray, List.append_toArray, List.nil_append, List.cons_append]
  gi_wp2
  go_ret
  exact ⟨rfl, rfl⟩
end Go.Proofs.Ytdkabbjknclifaa.F
end
section
namespace Go.Proofs.Ytdkabbjknclifaa.F
open Go.RowKit Go.Shelf Go.Proofs.YtdkabbjknclifaaW.PrintWords Go.Proofs.YtdkabbjknclifaaW.PrintLast Go.Proofs.YtdkabbjknclifaaW.PrintMore
attribute [local go_sem] Oper.semAt_some
set_option linter.unusedVariables false
set_option linter.unusedSimpArgs false
theorem con_cells {W : World} {b : Nat} {u v : Value} {t : TypeId} (h : W.heap[b]? = some (.cells #[u, v] t (0, 0))) :
    W.cell? ⟨b, 0, none⟩ = some u ∧ W.cell? ⟨b, 1, none⟩ = some v ∧ W.frozen? ⟨b, 0, none⟩ = false ∧ W.frozen? ⟨b, 1, none⟩ = false := by
  simp [World.cell?, World.frozen?, h]
end Go.Proofs.Ytdkabbjknclifaa.F
end
section
namespace Go.Proofs.Ytdkabbjknclifaa.F
open Go.RowKit Go.Shelf Go.Proofs.YtdkabbjknclifaaW.PrintWords Go.Proofs.YtdkabbjknclifaaW.PrintLast Go.Proofs.YtdkabbjknclifaaW.PrintMore
attribute [local go_sem] Oper.semAt_some
set_option linter.unusedVariables false
set_option linter.unusedSimpArgs false
set_option maxHeartbeats 4000000 in
set_option maxRecDepth 100000 in
theorem con_in (n l kb : Nat) (A : Option Addr) (c : Nat) (b : Bool) (ls : List Bool) (Wb W : World)
    (hkb : W.heap[kb]? = some (.cells #[.bool b, .slice A ls.length c] 64 (0, 0))) (hr : Kd.C Kd.bool Wb A ls.length ls) (hlen : ls.length ≤ 64)
    (J : List (Int × Bool) → World → Prop)
    (hY : ∀ pre (x : Int × Bool) W1, J pre W1 → pre.length ≤ 64 → YieldAt Fence.wide (n - 1) Try.prog l #[.int .i64 x.1, .bool x.2] W1 fun e W' =>
      e = .returned (.bool true) ∧ J (pre ++ [x]) W' ∧ Below Wb.heap.size W1 W' ∧ W'.heap[kb]? = W1.heap[kb]?)
    (hW : Below Wb.heap.size Wb W) (h0 : J [] W) :
    CallsIn Fence.wide n Try.prog 52 #[.func (.yield l) #[] #[], .pointer (some ⟨kb, 0, none⟩)] W fun e W' =>
      (∃ v, e = .returned v) ∧ J (contactsOf b ls) W' := by
  refine callsIn_of_wp Try.func52 rfl trivial ?_ rfl
  simp only [Try.ntmps52, List.size_toArray, List.length_cons, List.length_nil, Nat.reduceAdd, Nat.reduceSub, Array.replicate_succ, Array.replicate_zero, List.push_toArray, List.append_toArray, List.nil_append, List.cons_append]
  have hu64 := Try.underlying64
  have hu25 := Try.underlying25
  have hu23 := Try.underlying23
  obtain ⟨hx0, hx1, hf0, hf1⟩ := con_cells hkb
  have hbl : kb < W.heap.size := blk_lt hkb
  obtain ⟨fn, tmps, assign, body, hyy, hR⟩ := hY [] (-1, b) W h0 (by simp)
  dsimp only at hyy
  have HKB := Aside0.mk hkb
  have HW := Aside0.mk hW
  clear hkb hW h0
  gi_wp2
  refine ⟨fun hd => (by cases hd), hR.mono ?_⟩
  rintro e W3 ⟨rfl, hJ3, hB3, hK3⟩
  have HK3 := Aside0.mk (hK3.trans HKB.out)
  obtain ⟨hx0', hx1', hf0', hf1'⟩ := con_cells HK3.out
  have hbl3 : kb < W3.heap.size := blk_lt HK3.out
  have HB3 := Aside0.mk (HW.out.trans hB3)
  have HJ3 := Aside0.mk hJ3
  clear hx0 hx1 hf0 hf1 hbl hyy hR hJ3 hB3 hK3 HKB HW
  gi_wp2
  gi_loopw [15] (fun v wr => ∃ (i : Nat) (acc : List (Int × Bool)), v = .int .i64 i ∧ i ≤ ls.length ∧ acc.length = i + 1 ∧ Aside0 (acc ++ landings i (ls.drop i) = contactsOf b ls) ∧ Aside0 (J acc wr) ∧ Aside0 (wr.heap[kb]? = some (.cells #[.bool b, .slice A ls.length c] 64 (0, 0))) ∧ Aside0 (Below Wb.heap.size Wb wr))
    (fun v _ => ls.length - (intOf v).toNat)
  case atStart => exact ⟨0, [(-1, b)], rfl, Nat.zero_le _, rfl, ⟨rfl⟩, HJ3, HK3, HB3⟩
  case round =>
    obtain ⟨i, acc, rfl, hi, hal, HS, HJ, HBK, HB⟩ := hrel
    clear hx0' hx1' hf0' hf1' HK3 HB3 HJ3 hbl3
    by_cases hlt : i < ls.length
    · have H := HS.out
      rw [landings_step hlt] at H
      obtain ⟨ad, e, hy0⟩ := Kd.at_bool hr i (by omega) (by omega)
      cases e
      replace hy0 := (HB.out.cell (World.block_lt_of_cell? Wb _ hy0)).trans hy0
      simp only [Int.toNat_natCast] at hy0
      have H' := Aside0.mk (show (acc ++ [((i : Int), rdOf false ls i)]) ++ landings (i + 1) (ls.drop (i + 1)) = contactsOf b ls by rw [← H]; simp)
      clear H
      obtain ⟨fn, tmps, assign, body, hyy, hR⟩ := hY acc (i, rdOf false ls i) wr HJ.out (by omega)
      dsimp only at hyy
      gi_wp2
      refine ⟨fun hd => (by cases hd), hR.mono ?_⟩
      rintro e W4 ⟨rfl, hJ4, hB4, hK4⟩
      have HJ4 := Aside0.mk hJ4
      have HB4 := Aside0.mk (HB.out.trans hB4)
      have HK4 := Aside0.mk (hK4.trans HBK.out)
      clear hJ4 hB4 hK4 hR hyy
      gi_wp2
      refine ⟨⟨i + 1, acc ++ [((i : Int), rdOf false ls i)], by simp, hlt, by simp; omega, H', HJ4, HK4, HB4⟩, ?_⟩
      simp [intOf]; omega
    · obtain rfl : i = ls.length := by omega
      have H := HS.out
      rw [List.drop_length, landings, List.append_nil] at H
      subst H
      gi_wp2
      go_end0
      exact ⟨⟨_, rfl⟩, HJ.out⟩
end Go.Proofs.Ytdkabbjknclifaa.F
end
section
namespace Go.Proofs.Ytdkabbjknclifaa.F
open Go.RowKit Go.Shelf Go.Proofs.YtdkabbjknclifaaW.PrintWords Go.Proofs.YtdkabbjknclifaaW.PrintLast Go.Proofs.YtdkabbjknclifaaW.PrintMore
attribute [local go_sem] Oper.semAt_some
set_option linter.unusedVariables false
set_option linter.unusedSimpArgs false
theorem con_iter (n kb : Nat) (A : Option Addr) (c : Nat) (b : Bool) (ls : List Bool) (Wb W : World)
    (hkb : W.heap[kb]? = some (.cells #[.bool b, .slice A ls.length c] 64 (0, 0))) (hr : Kd.C Kd.bool Wb A ls.length ls) (hlen : ls.length ≤ 64) (hW : Below Wb.heap.size Wb W) :
    IterMine n Try.prog 52 #[.pointer (some ⟨kb, 0, none⟩)] (fun x : Int × Bool => .int .i64 x.1) (fun x => .bool x.2) (fun k => k < Wb.heap.size ∨ k = kb) 64 (contactsOf b ls) W := by
  intro l J hJ hY h0
  refine (con_in n l kb A c b ls Wb W hkb hr hlen (J fun _ => False) (fun pre x W1 hJ1 hlen1 => ?_) hW h0).mono (fun e W' h => ⟨h.1, _, h.2⟩)
  refine (hY (fun _ => False) pre x W1 hJ1 hlen1).mono ?_
  rintro e W' ⟨he, hJ', ht, hz⟩
  have hk' : ∀ k, (k < Wb.heap.size ∨ k = kb) → W'.heap[k]? = W1.heap[k]? := fun k h => ht.block k (hz k (.inl h)) (fun hn => hn (.inl h))
  exact ⟨he, hJ', ⟨ht.os, ht.tape, ht.output, ht.size, fun k h => hk' k (.inl h)⟩, hk' kb (.inr rfl)⟩
end Go.Proofs.Ytdkabbjknclifaa.F
end
section
namespace Go.Proofs.Ytdkabbjknclifaa.F
open Go.RowKit Go.Shelf Go.Proofs.YtdkabbjknclifaaW.PrintWords Go.Proofs.YtdkabbjknclifaaW.PrintLast Go.Proofs.YtdkabbjknclifaaW.PrintMore
attribute [local go_sem] Oper.semAt_some Instr.field asAgg
set_option linter.unusedVariables false
set_option linter.unusedSimpArgs false
/-- append(l, s) in a fenced walk, where l's row and what it leads to satisfy ok. -/
theorem wpListIn_R_append {α : Type} {F : Fence} {n : Nat} {P : Program} (d : Kd α) {W : World} {ops : Array Oper} {rest : List Oper} {o : Oper} {a : Act} {Q : Exit → Act → World → Prop}
    (base : Nat) (hgd : o.guard = none) (s x : Operand) (t e : TypeId) (z : Value) (bytes : Nat)
    (ho : o.op = .call { callee := .builtin .append, args := #[s, x], argTypes := #[t, t] })
    (ht : P.underlying t = some (.slice e)) (hinfo : (P.info? e).map (fun i => (i.zero, i.size, i.bytes)) = some (some z, d.sz, bytes)) (hz : z.cells.size = d.sz) (hs0 : 0 < d.sz) (hb0 : 0 < bytes)
    (v : Value) (xs : List α) (p : α) (cs : List Value) (ok okp : Nat → Prop) (hs : a.eval s = v) (hx : a.eval x = .slice (some ⟨W.heap.size, 0, none⟩) 1 1) (hp : d.M W base okp p cs) (hokp : ∀ k, okp k → ok k ∧ some k ≠ v.ownBlock) (hfresh : ∀ k, W.heap.size ≤ k → ok k)
    (HO : d.R e W base ok v xs) (hbase : base ≤ W.heap.size) (hl : (xs.length + 1) * bytes ≤ 140737488355328)
    (h : ∀ v1 w1, d.R e w1 base ok v1 (xs ++ [p]) → W.grownBy w1 v.ownBlock → wpListIn F n P ops Q rest (a.put o.dst v1) w1) :
    wpListIn F n P ops Q (o :: rest) a (W.alloc (.cells cs.toArray e)) := by
  obtain ⟨h0, inner, hown, hr⟩ := HO
  obtain ⟨i0, hi, hzz⟩ := Option.map_eq_some_iff.1 hinfo
  simp only [Prod.mk.injEq] at hzz
  obtain ⟨hz0, hz1, hz2⟩ := hzz
  have hlen : xs.length + 1 ≤ 140737488355328 := Nat.le_trans (Nat.le_mul_of_pos_right _ hb0) hl
  have hys := d.K_len (d.K_of_M hp)
  refine wpListIn_plain hgd fun K hK' => ?_
  obtain ⟨v', w', hrun, hown1, hg, _, hat⟩ := run_append_own_at (P := P) (W.alloc (.cells cs.toArray e)) base t o.type e i0 z d.sz bytes ht hi hz0 hz1 hz2 hz hs0 v xs.length inner (hown.alloc _) ⟨W.heap.size, 0, none⟩ 1 1 cs (by rw [hys]; simp)
    (by simpa using World.news_of_block (cs := cs.toArray) (t := e) (fr := (0, 0)) (heap_alloc_new W (.cells cs.toArray e))) (d.K_one (d.K_of_M hp)) (by simp only [maxLen]; omega) hl (by simp; omega)
  unfold Oper.wpIn
  refine ⟨?_, ?_⟩
  · simp [Oper.about, ho, resolve, Target.leads, Sem.run_pure]
  · rw [Oper.semAt_plain F _ _ (by rw [ho]; intro c hc'; cases hc')]
    simp [execOp, ho, resolve, invoke, builtin, hs, hx, hrun, Result.andThen]
    refine hK' _ _ (h v' w' (Kd.R_appended h0 hr hp hokp hfresh hown1 (World.grownBy.trans (World.grownBy_alloc W _ _) hg) ?_) (World.grownBy.trans (World.grownBy_alloc W _ _) hg))
    rcases hat with hat | hat
    · exact .inl hat
    · exact .inr ⟨_, hat, by simp⟩
end Go.Proofs.Ytdkabbjknclifaa.F
end
section
namespace Go.Proofs.Ytdkabbjknclifaa.F
open Go.RowKit Go.Shelf Go.Proofs.YtdkabbjknclifaaW.PrintWords Go.Proofs.YtdkabbjknclifaaW.PrintLast Go.Proofs.YtdkabbjknclifaaW.PrintMore
attribute [local go_sem] Oper.semAt_some Instr.field asAgg
set_option linter.unusedVariables false
set_option linter.unusedSimpArgs false
theorem missOf_snoc (pre : List (Int × Bool)) (x : Int × Bool) : missOf (pre ++ [x]) = missStep (missOf pre) x := by simp [missOf]
end Go.Proofs.Ytdkabbjknclifaa.F
end
section
namespace Go.Proofs.Ytdkabbjknclifaa.F
open Go.RowKit Go.Shelf Go.Proofs.YtdkabbjknclifaaW.PrintWords Go.Proofs.YtdkabbjknclifaaW.PrintLast Go.Proofs.YtdkabbjknclifaaW.PrintMore
attribute [local go_sem] Oper.semAt_some Instr.field asAgg
set_option linter.unusedVariables false
set_option linter.unusedSimpArgs false
theorem missOf_length (pre : List (Int × Bool)) : (missOf pre).length ≤ pre.length := by
  suffices h : ∀ (l : List (Int × Bool)) (acc : List Int), (l.foldl missStep acc).length ≤ acc.length + l.length by simpa [missOf] using h pre []
  intro l
  induction l with
  | nil => intro acc; simp
  | cons x r ih => intro acc; have h1 := ih (missStep acc x); have h2 : (missStep acc x).length ≤ acc.length + 1 := by unfold missStep; split <;> simp
                   simp only [List.foldl_cons, List.length_cons]; omega
end Go.Proofs.Ytdkabbjknclifaa.F
end
section
namespace Go.Proofs.Ytdkabbjknclifaa.F
open Go.RowKit Go.Shelf Go.Proofs.YtdkabbjknclifaaW.PrintWords Go.Proofs.YtdkabbjknclifaaW.PrintLast Go.Proofs.YtdkabbjknclifaaW.PrintMore
attribute [local go_sem] Oper.semAt_some Instr.field asAgg
set_option linter.unusedVariables false
set_option linter.unusedSimpArgs false
set_option maxHeartbeats 4000000 in
set_option maxRecDepth 100000 in
theorem chain_missing.calls (A : Option Addr) (c : Nat) (b : Bool) (ls : List Bool) (w : World) (hr : Kd.C Kd.bool w A ls.length ls) (hlen : ls.length ≤ 64) :
    Calls Try.prog 43 #[.agg #[.bool b, .slice A ls.length c]] w fun e w' => ∃ v0_ : Value, e = .returned v0_ ∧ Kd.R (Kd.int .i64) 3 w' w.heap.size (fun _ => True) v0_ (missOf (contactsOf b ls)) ∧ Below w.heap.size w w' := by
  have hu25 := Try.underlying25
  have hu64 := Try.underlying64
  have hu35 := Try.underlying35
  refine (callsIn_wide (n := 4)).1 ?_
  refine callsIn_of_wp_marks Try.func43 rfl trivial ?_ rfl
  simp only [Try.ntmps43, List.size_toArray, List.length_cons, List.length_nil, Nat.reduceAdd, Nat.reduceSub, Array.replicate_succ, Array.replicate_zero, List.push_toArray, List.append_toArray, List.nil_append, List.cons_append]
  have HR := Aside0.mk hr
  have HL := Aside0.mk hlen
  clear hr hlen
  gi_wp2_with (refine ⟨trivial, ?_⟩; refine (contacts_in 3 _ _ _ rfl rfl).mono ?_; rintro e w3 ⟨rfl, rfl⟩)
  obtain ⟨Wl, hWl⟩ : ∃ Wl, (((w.alloc (Obj.cells #[Value.bool b, Value.slice A ls.length c] 64)).alloc (Obj.cells #[Value.slice none 0 0] 35)).alloc (Obj.cells #[Value.bool b, Value.slice A ls.length c] 64)) = Wl := ⟨_, rfl⟩
  have hzl : Wl.heap.size = w.heap.size + 3 := by rw [← hWl]; simp
  have hbw : Below w.heap.size w Wl := by
    rw [← hWl]; exact (((Below.refl _ w).alloc (Nat.le_refl _) _).alloc (by simp) _).alloc (by simp; omega) _
  have hB : Wl.heap[w.heap.size + 1]? = some (.cells #[.slice none 0 0] 35 (0, 0)) := by
    rw [← hWl]; have := blk_new (w.alloc (Obj.cells #[Value.bool b, Value.slice A ls.length c] 64)) (Obj.cells #[Value.slice none 0 0] 35); rw [World.size_alloc] at this; exact blk_alloc this _
  have hKB : Wl.heap[w.heap.size + 1 + 1]? = some (.cells #[.bool b, .slice A ls.length c] 64 (0, 0)) := by
    rw [← hWl]; have := blk_new ((w.alloc (Obj.cells #[Value.bool b, Value.slice A ls.length c] 64)).alloc (Obj.cells #[Value.slice none 0 0] 35)) (Obj.cells #[Value.bool b, Value.slice A ls.length c] 64); rw [World.size_alloc, World.size_alloc] at this; exact this
  have HB0 := Aside0.mk hbw
  rw [hWl]
  clear hbw
  refine wpIn_rangeFunc_mine (by decide) (gf := 52) (lb := #[.pointer (some ⟨w.heap.size + 1 + 1, 0, none⟩)]) rfl (enters_of Try.func52 (by kernel_rfl) rfl)
    (fun x : Int × Bool => .int .i64 x.1) (fun x => .bool x.2) (fun k => k < w.heap.size ∨ k = w.heap.size + 1 + 1) (fun k h => by omega) 64 (contactsOf b ls)
    (fun W hW hz => con_iter 3 _ A c b ls w W ((hW.block _ (by omega)).trans hKB) HR.out HL.out (HB0.out.trans (hW.mono (by omega))))
    (fun O pre W => ∃ v, W.heap[w.heap.size + 1]? = some (.cells #[v] 35 (0, 0)) ∧ Kd.R (Kd.int .i64) 3 W w.heap.size (fun k => ¬ O k ∧ Wl.heap.size + 2 ≤ k) v (missOf pre) ∧ Below w.heap.size w W)
    ?inv ⟨_, hB, Kd.R_nil _ _ _ _ _, HB0.out⟩ ?round ?done
  case inv =>
    rintro O O' pre A B ⟨v, hv, hr, hb⟩ hO ht hup hnew
    refine ⟨v, (ht.block _ (blk_lt hv) ?_).trans hv, ?_, hb.trans (ht.below hb.size ?_)⟩
    · rintro (h | h)
      · have := hO _ h; omega
      · omega
    · refine Kd.R_mono (Kd.R_move (Kd.R_bound hr) (fun k hk => ht.block k hk.2.2.1 ?_)) (fun k hk => ⟨fun h => ?_, hk.1.2⟩)
      · rintro (h | h)
        · exact hk.1.1 h
        · have := hk.1.2; omega
      · rcases hnew k h with h | h
        · exact hk.1.1 h
        · have := hk.2.2.1; omega
    · rintro k hk (h | h)
      · have := hO _ h; omega
      · omega
  case round =>
    rintro O pre x W ⟨v, hv, hr, hb⟩ hlen hO hz
    have hvc := (blk_cell hv 0).trans rfl
    gi_wp2
    refine ⟨trivial, trivial, fun W2 ht2 hs2 => ?_⟩
    have hBl : w.heap.size + 1 < W.heap.size := blk_lt hv
    have hv2 : W2.heap[w.heap.size + 1]? = some (.cells #[v] 35 (0, 0)) := (ht2.block _ (by omega) (by omega)).trans hv
    have hr2 : Kd.R (Kd.int .i64) 3 W2 w.heap.size (fun k => ¬ O k ∧ Wl.heap.size + 2 ≤ k) v (missOf pre) :=
      Kd.R_mono (Kd.R_move (Kd.R_bound hr) (fun k hk => (ht2.block k hk.2.2.1 (by have := hk.1.2; omega)))) (fun k hk => hk.1)
    have hT2 : Turned (fun k => ¬ ((k < w.heap.size ∨ k = w.heap.size + 1 + 1) ∨ O k)) W W2 :=
      ht2.mono fun k h => by
        subst h
        rintro ((h | h) | h)
        · omega
        · omega
        · have := hO _ h; omega
    have hb2 : Below w.heap.size w W2 := hb.trans (hT2.below hb.size (fun k hk h => h (.inl (.inl hk))))
    have y0 := (blk_cell hv2 0).trans rfl
    have HR2 := Aside0.mk hr2
    have HB2 := Aside0.mk hb2
    have HT2 := Aside0.mk hT2
    have HV2 := Aside0.mk hv2
    have hOz : ∀ k, W2.heap.size ≤ k → ¬ O k ∧ Wl.heap.size + 2 ≤ k := fun k hk => ⟨fun h => by have := hO k h; omega, by omega⟩
    have hz2 : Wl.heap.size + 2 ≤ W2.heap.size := by omega
    have hml := missOf_length pre
    clear hr2 hb2 hT2 hv2 ht2 hr hb hv hvc hs2
    obtain ⟨x1, x2⟩ := x
    cases x2 with
    | true =>
      gi_wp2
      exact ⟨rfl, rfl, ⟨_, HV2.out, by rw [missOf_snoc]; exact HR2.out, HB2.out⟩, HT2.out⟩
    | false =>
      gi_wp2_with (gi_at_builtin; refine wpListIn_R_append (Kd.int .i64) w.heap.size rfl _ _ 35 3 (.int .i64 0) 8 rfl Try.underlying35 info3 rfl (by decide) (by decide) v (missOf pre) x1 [.int .i64 x1] (fun k => ¬ O k ∧ Wl.heap.size + 2 ≤ k) (fun _ => False) rfl rfl ?hp (fun _ h => h.elim) hOz HR2.out (by have := HB2.out.size; omega) (by omega) ?_; (case hp => rfl); intro v1 w1 hR1 hg1; obtain ⟨A9, c9, e9⟩ := Kd.R_slice hR1; subst e9; have HR3 := Aside0.mk hR1; have HG := Aside0.mk hg1; have hrow : ∀ k, some k = v.ownBlock → ¬ O k ∧ Wl.heap.size + 2 ≤ k := fun k hk => HR2.out.1 k hk.symm; have hv3 := Aside0.mk ((HG.out.block _ (by omega) (fun h => by have := (hrow _ h).2; omega)).trans HV2.out); have y3 := (blk_cell hv3.out 0).trans rfl; have y4 := blk_frozen hv3.out 0; clear hR1 hg1)
      have hR3 := HR3.out
      simp only [List.length_append, List.length_cons, List.length_nil, Nat.zero_add] at hR3
      refine ⟨?_, ?_, ⟨_, blk_put hv3.out 0 _ rfl, Kd.R_move (by rw [missOf_snoc]; simpa [missStep] using hR3) (fun k hk => Below.heap_setCell _ _ _ _ (by have := hk.2; show k ≠ w.heap.size + 1; omega)), ?_⟩, ?_⟩
      · exact (Below.heap_setCell _ _ _ _ (by show Wl.heap.size + 1 ≠ w.heap.size + 1; omega)).trans (HG.out.block _ (by omega) (fun h => by have := (hrow _ h).2; omega))
      · exact (Below.heap_setCell _ _ _ _ (by show Wl.heap.size ≠ w.heap.size + 1; omega)).trans (HG.out.block _ (by omega) (fun h => by have := (hrow _ h).2; omega))
      · refine ((HB2.out.grown HG.out HB2.out.size fun k hk => ?_)).setCell (p := ⟨w.heap.size + 1, 0, none⟩) (by show w.heap.size ≤ w.heap.size + 1; omega) _
        have := (hrow k hk.symm).2; omega
      · refine (HT2.out.trans ((Turned.of_grown HG.out).mono fun k hk => ?_)).trans ((Turned.setCell _ _ _).mono fun k hk => ?_)
        · have := hrow k hk
          rintro ((h | h) | h)
          · omega
          · omega
          · exact this.1 h
        · have hk' : k = w.heap.size + 1 := hk
          rintro ((h | h) | h)
          · omega
          · omega
          · have := hO _ h; omega
  case done =>
    rintro O W ⟨v, hv, hr, hb⟩ hO hD
    have hvc := (blk_cell hv 0).trans rfl
    obtain ⟨A9, c9, e9⟩ := Kd.R_slice hr
    subst e9
    gi_wp2
    refine ⟨by simp, .inl ⟨_, _, rfl, run_takeDeferred hD, ?_⟩⟩
    refine ⟨_, results_tmp rfl _ _ _, _, rfl, Kd.R_mono (Kd.R_move hr (fun k hk => World.putObj_heap_other (by have := hk.2; omega))) (fun _ _ => trivial), hb.trans ((Turned.putObj W Wl.heap.size _).below hb.size (fun k hk h => by omega))⟩
end Go.Proofs.Ytdkabbjknclifaa.F
end
section
namespace Go.Proofs.Ytdkabbjknclifaa.F
open Go.RowKit Go.Shelf Go.Proofs.YtdkabbjknclifaaW.PrintWords Go.Proofs.YtdkabbjknclifaaW.PrintLast Go.Proofs.YtdkabbjknclifaaW.PrintMore
attribute [local go_sem] Oper.semAt_some Instr.field asAgg
set_option linter.unusedVariables false
set_option linter.unusedSimpArgs false
theorem boxed_below {w w' : World} {o : Obj} (h : Below (w.alloc o).heap.size (w.alloc o) w') : Below w.heap.size w w' := ((Below.refl w.heap.size w).alloc (Nat.le_refl _) o).trans (h.mono (by simp))
end Go.Proofs.Ytdkabbjknclifaa.F
end
section
namespace Go.Proofs.Ytdkabbjknclifaa.F
open Go.RowKit Go.Shelf Go.Proofs.YtdkabbjknclifaaW.PrintWords Go.Proofs.YtdkabbjknclifaaW.PrintLast Go.Proofs.YtdkabbjknclifaaW.PrintMore
attribute [local go_sem] Oper.semAt_some Instr.field asAgg
set_option linter.unusedVariables false
set_option linter.unusedSimpArgs false
set_option maxHeartbeats 1000000 in
set_option maxRecDepth 100000 in
/-- of: a chain in two structs. -/
theorem of_calls (b : Bool) (A : Option Addr) (n c : Nat) (w : World) :
    Calls Try.prog 42 #[.agg #[.bool b, .slice A n c]] w fun e w' => e = .returned (.agg #[.bool b, .slice A n c]) ∧ Below w.heap.size w w' := by
  have hu25 := Try.underlying25
  have hu66 := Try.underlying66
  have hu64 := Try.underlying64
  go_enter Try.func42, Try.ntmps42
  go_wp2
  refine bodyPost_ret (results_cell_row rfl _ _ (w.heap.size + 1) 66 #[.bool b, .slice A n c] (0, 0) _ rfl ?_ hu66 rfl (by kernel_rfl)) rfl ?_
  · have h0 := blk_new (w.alloc (.cells #[.bool b, .slice A n c] 25)) (.cells #[.bool b, .slice A n c] 66)
    rw [World.size_alloc] at h0
    exact h0
  · refine ⟨rfl, ?_⟩
    exact ((Below.refl w.heap.size w).alloc (Nat.le_refl _) (.cells #[.bool b, .slice A n c] 25)).alloc (by simp) (.cells #[.bool b, .slice A n c] 66)
end Go.Proofs.Ytdkabbjknclifaa.F
end
section
namespace Go.Proofs.Ytdkabbjknclifaa.F
open Go.RowKit Go.Shelf Go.Proofs.YtdkabbjknclifaaW.PrintWords Go.Proofs.YtdkabbjknclifaaW.PrintLast Go.Proofs.YtdkabbjknclifaaW.PrintMore
attribute [local go_sem] Oper.semAt_some Instr.field asAgg
set_option linter.unusedVariables false
set_option linter.unusedSimpArgs false
set_option maxHeartbeats 4000000 in
set_option maxRecDepth 100000 in
theorem lock_Missing.calls (a0_0 : Bool) (A0_1 : Option Addr) (c0_1 : Nat) (l0_1 : List Bool) (r1 : List Int) (r2 : Int) (w : World) (hr0_1 : Kd.C Kd.bool w A0_1 l0_1.length l0_1) (hc0_1 : l0_1.length ≤ c0_1) (h : lock_Missing.f a0_0 l0_1 = some (r1, r2)) :
    Calls Try.prog 16 #[.agg #[.bool a0_0, .slice A0_1 l0_1.length c0_1]] w fun e w' => ∃ v0_ : Value, e = .returned (.tuple #[v0_, .int .i64 r2]) ∧ Kd.R (Kd.int .i64) 3 w' w.heap.size (fun _ => True) v0_ r1 ∧ Below w.heap.size w w' := by
  have hu25 := Try.underlying25
  have hu64 := Try.underlying64
  have hu66 := Try.underlying66
  unfold lock_Missing.f at h
  obtain ⟨e, he, h⟩ := Option.bind_eq_some_iff.mp h
  have HE := Aside0.mk he
  have HR := Aside0.mk hr0_1
  clear he hr0_1
  by_cases c : e = 0
  · subst c
    rw [if_pos rfl] at h
    by_cases hl : l0_1.length ≤ 64
    · rw [if_pos hl] at h
      simp only [Option.some.injEq, Prod.mk.injEq] at h
      obtain ⟨rfl, rfl⟩ := h
      have HL := Aside0.mk hl
      clear hl
      go_enter Try.func16, Try.ntmps16
      go_wp2_with (first
        | (go_at_call 28; refine (lock_Check.calls 4096 a0_0 A0_1 c0_1 l0_1 0 _ ?hr hc0_1 HE.out).mono ?_; (case hr => exact Kd.C_below HR.out ((Below.refl _ w).alloc (Nat.le_refl _) _)); rintro e w1 ⟨rfl, hbw⟩; have HBW := Aside0.mk (boxed_below hbw); have HKB := Aside0.mk (blk_below (blk_new w _) hbw); have q0 := (blk_cell HKB.out 0).trans rfl; have q1 := (blk_cell HKB.out 1).trans rfl; have qlt := blk_lt HKB.out; clear hbw)
        | (go_at_call 42; refine (of_calls _ _ _ _ _).mono ?_; rintro e w2 ⟨rfl, hb2⟩; have HB2 := Aside0.mk (HBW.out.trans (hb2.mono HBW.out.size)); clear hb2)
        | (go_at_call 43; refine (chain_missing.calls A0_1 c0_1 a0_0 l0_1 _ ?hr HL.out).mono ?_; (case hr => exact Kd.C_below HR.out HB2.out); rintro e w3 ⟨v0, rfl, hR3, hb3⟩; have HR3 := Aside0.mk hR3; have HB3 := Aside0.mk hb3; clear hR3 hb3))
      go_ret2
      exact ⟨_, rfl, Kd.R_lower HR3.out HB2.out.size, HB2.out.trans (HB3.out.mono HB2.out.size)⟩
    · rw [if_neg hl] at h
      cases h
  · rw [if_neg c] at h
    have cb : (e != 0) = true := bne_iff_ne.mpr c
    clear c
    simp only [Option.some.injEq, Prod.mk.injEq] at h
    obtain ⟨rfl, rfl⟩ := h
    go_enter Try.func16, Try.ntmps16
    go_wp2_with (go_at_call 28; refine (lock_Check.calls 4096 a0_0 A0_1 c0_1 l0_1 e _ ?hr hc0_1 HE.out).mono ?_; (case hr => exact Kd.C_below HR.out ((Below.refl _ w).alloc (Nat.le_refl _) _)); rintro e w1 ⟨rfl, hbw⟩; have HBW := Aside0.mk (boxed_below hbw); clear hbw)
    go_ret2
    exact ⟨_, rfl, Kd.R_nil _ _ _ _ _, HBW.out⟩
end Go.Proofs.Ytdkabbjknclifaa.F
end
section
namespace Go.Proofs.Ytdkabbjknclifaa.F
open Go.RowKit Go.Shelf Go.Proofs.YtdkabbjknclifaaW.PrintWords Go.Proofs.YtdkabbjknclifaaW.PrintLast Go.Proofs.YtdkabbjknclifaaW.PrintMore
attribute [local go_sem] Oper.semAt_some Instr.field asAgg
set_option linter.unusedVariables false
set_option linter.unusedSimpArgs false
set_option maxHeartbeats 1000000 in
set_option maxRecDepth 100000 in
theorem clone_bools (A : Option Addr) (c : Nat) (ls : List Bool) (w : World) (hr : Kd.C Kd.bool w A ls.length ls) (h0 : 0 < ls.length) (hlen : ls.length ≤ 64) :
    Calls Try.prog 55 #[.slice A ls.length c] w fun e w' => ∃ v : Value, e = .returned v ∧ Kd.R Kd.bool 4 w' w.heap.size (fun _ => True) v ls ∧ Below w.heap.size w w' := by
  have hu23 := Try.underlying23
  obtain ⟨ad, rfl, _⟩ := hr.2.2 h0
  have HR := Aside0.mk hr
  clear hr
  go_enter Try.func55, Try.ntmps55
  have q23 : ∀ (w : World) (a : Option Addr) (n c n' c' : Nat), (binOp .eql 23 (.slice a n c) (.slice none n' c')).run Try.prog w = .ok (.bool a.isNone) w := fun w a n c n' c' => Lib.run_eql_slice_nil w _ _ a n c n' c' Try.underlying23
  go_wp2_with (at_builtin; refine Kd.R_append_row .bool false (h1 := fun _ => rfl) (w0 := w) w.heap.size rfl _ _ 23 4 (.bool false) 1 rfl Try.underlying23 info4 rfl (by decide) _ [] ls _ _ _ (fun _ => True) rfl rfl (fun _ _ => trivial) ?aO ?aR ?aB ?aS (by simp; omega) ?_)
  case aO => exact Kd.R_of_own (World.ownsRow_made w #[] 0 (Nat.le_refl _) (Nat.zero_le _) rfl) (fun _ _ => trivial)
  case aR => exact Kd.C_below HR.out ((Below.refl _ w).alloc (Nat.le_refl _) _)
  case aB => exact (Below.refl _ w).alloc (Nat.le_refl _) _
  case aS => simp
  intro v1 w1 hR hB hg hat
  go_wp2
  go_ret
  exact ⟨v1, rfl, hR, hB⟩
end Go.Proofs.Ytdkabbjknclifaa.F
end
section
namespace Go.Proofs.Ytdkabbjknclifaa.F
open Go.RowKit Go.Shelf Go.Proofs.YtdkabbjknclifaaW.PrintWords Go.Proofs.YtdkabbjknclifaaW.PrintLast Go.Proofs.YtdkabbjknclifaaW.PrintMore
attribute [local go_sem] Oper.semAt_some Instr.field asAgg
set_option linter.unusedVariables false
set_option linter.unusedSimpArgs false
theorem boxed_below' {w w' : World} {o o' : Obj} (h : Below ((w.alloc o).alloc o').heap.size ((w.alloc o).alloc o') w') : Below (w.alloc o).heap.size (w.alloc o) w' := boxed_below h
end Go.Proofs.Ytdkabbjknclifaa.F
end
section
namespace Go.Proofs.Ytdkabbjknclifaa.F
open Go.RowKit Go.Shelf Go.Proofs.YtdkabbjknclifaaW.PrintWords Go.Proofs.YtdkabbjknclifaaW.PrintLast Go.Proofs.YtdkabbjknclifaaW.PrintMore
attribute [local go_sem] Oper.semAt_some Instr.field asAgg
set_option linter.unusedVariables false
set_option linter.unusedSimpArgs false
theorem two_boxes {w w' : World} {o o' : Obj} (h : Below ((w.alloc o).alloc o').heap.size ((w.alloc o).alloc o') w') :
    Below w.heap.size w w' ∧ w'.heap[w.heap.size]? = some o ∧ w'.heap[w.heap.size + 1]? = some o' := by
  refine ⟨boxed_below (boxed_below' h), blk_below (blk_alloc (blk_new w _) _) h, ?_⟩
  have h0 := blk_new (w.alloc o) o'
  rw [World.size_alloc] at h0
  exact blk_below h0 h
end Go.Proofs.Ytdkabbjknclifaa.F
end
section
namespace Go.Proofs.Ytdkabbjknclifaa.F
open Go.RowKit Go.Shelf Go.Proofs.YtdkabbjknclifaaW.PrintWords Go.Proofs.YtdkabbjknclifaaW.PrintLast Go.Proofs.YtdkabbjknclifaaW.PrintMore
attribute [local go_sem] Oper.semAt_some Instr.field asAgg
set_option linter.unusedVariables false
set_option linter.unusedSimpArgs false
set_option maxHeartbeats 1000000 in
set_option maxRecDepth 100000 in
theorem chain_clone (b : Bool) (A : Option Addr) (c : Nat) (ls : List Bool) (w : World) (hr : Kd.C Kd.bool w A ls.length ls) (h0 : 0 < ls.length) (hlen : ls.length ≤ 64) :
    Calls Try.prog 49 #[.agg #[.bool b, .slice A ls.length c]] w fun e w' => ∃ v : Value, e = .returned (.agg #[.bool b, v]) ∧ Kd.R Kd.bool 4 w' w.heap.size (fun _ => True) v ls ∧ Below w.heap.size w w' := by
  have hu25 := Try.underlying25
  have hu64 := Try.underlying64
  have HR := Aside0.mk hr
  clear hr
  go_enter Try.func49, Try.ntmps49
  go_wp2_with (go_at_call 55; refine (clone_bools A c ls _ ?hr h0 hlen).mono ?_; (case hr => exact Kd.C_below HR.out (((Below.refl _ w).alloc (Nat.le_refl _) _).alloc (by simp) _)); rintro e w2 ⟨v, rfl, hR, hb⟩; obtain ⟨A9, c9, rfl⟩ := Kd.R_slice hR; have HR2 := Aside0.mk (Kd.R_bound hR); have HB2 := Aside0.mk (two_boxes hb); obtain ⟨q0, q1, q2, q3⟩ := con_cells HB2.out.2.1; obtain ⟨q4, q5, q6, q7⟩ := con_cells HB2.out.2.2; have ql := blk_lt HB2.out.2.1; have ql' := blk_lt HB2.out.2.2; clear hR hb)
  refine bodyPost_ret (results_cell_row rfl _ _ (w.heap.size + 1) 64 #[.bool b, .slice A9 ls.length c9] (0, 0) _ rfl ?_ hu64 rfl (by kernel_rfl)) rfl ?_
  · exact blk_put (blk_put (blk_far (p := ⟨w.heap.size, 1, none⟩) HB2.out.2.2 (show w.heap.size + 1 ≠ w.heap.size by omega) _) 0 _ rfl) 1 _ rfl
  · have hz : w.heap.size + 2 = ((w.alloc (Obj.cells #[Value.bool b, Value.slice A ls.length c] 64)).alloc (Obj.cells #[Value.bool false, Value.slice none 0 0] 64)).heap.size := by simp
    have hR : Kd.R Kd.bool 4 w2 w.heap.size (fun k => w.heap.size + 2 ≤ k) (.slice A9 ls.length c9) ls := Kd.R_mono (Kd.R_lower HR2.out (by omega)) (fun k hk => by have := hk.2.1; omega)
    refine ⟨_, rfl, Kd.R_mono (Kd.R_far (p := ⟨w.heap.size + 1, 1, none⟩) (Kd.R_far (p := ⟨w.heap.size + 1, 0, none⟩) (Kd.R_far (p := ⟨w.heap.size, 1, none⟩) hR ?_ _) ?_ _) ?_ _) (fun _ _ => trivial), ((HB2.out.1.setCell (p := ⟨w.heap.size, 1, none⟩) (Nat.le_refl _) _).setCell (p := ⟨w.heap.size + 1, 0, none⟩) (Nat.le_succ _) _).setCell (p := ⟨w.heap.size + 1, 1, none⟩) (Nat.le_succ _) _⟩
    all_goals intro k hk; simp only; omega
end Go.Proofs.Ytdkabbjknclifaa.F
end
section
namespace Go.Proofs.Ytdkabbjknclifaa.F
open Go.RowKit Go.Shelf Go.Proofs.YtdkabbjknclifaaW.PrintWords Go.Proofs.YtdkabbjknclifaaW.PrintLast Go.Proofs.YtdkabbjknclifaaW.PrintMore
attribute [local go_sem] Oper.semAt_some Instr.field asAgg
set_option linter.unusedVariables false
set_option linter.unusedSimpArgs false
/-- w' is behind w, with two blocks. -/
def Two (w w' : World) (o o' : Obj) : Prop := Below w.heap.size w w' ∧ w'.heap[w.heap.size]? = some o ∧ w'.heap[w.heap.size + 1]? = some o'
end Go.Proofs.Ytdkabbjknclifaa.F
end
section
namespace Go.Proofs.Ytdkabbjknclifaa.F
open Go.RowKit Go.Shelf Go.Proofs.YtdkabbjknclifaaW.PrintWords Go.Proofs.YtdkabbjknclifaaW.PrintLast Go.Proofs.YtdkabbjknclifaaW.PrintMore
attribute [local go_sem] Oper.semAt_some Instr.field asAgg
set_option linter.unusedVariables false
set_option linter.unusedSimpArgs false
theorem Two.below {w w1 w2 : World} {o o' : Obj} (h : Two w w1 o o') (hb : Below w1.heap.size w1 w2) : Two w w2 o o' :=
  ⟨h.1.trans (hb.mono h.1.size), blk_below h.2.1 hb, blk_below h.2.2 hb⟩
end Go.Proofs.Ytdkabbjknclifaa.F
end
section
namespace Go.Proofs.Ytdkabbjknclifaa.F
open Go.RowKit Go.Shelf Go.Proofs.YtdkabbjknclifaaW.PrintWords Go.Proofs.YtdkabbjknclifaaW.PrintLast Go.Proofs.YtdkabbjknclifaaW.PrintMore
attribute [local go_sem] Oper.semAt_some Instr.field asAgg
set_option linter.unusedVariables false
set_option linter.unusedSimpArgs false
set_option maxHeartbeats 4000000 in
set_option maxRecDepth 100000 in
theorem lock_Unlock.calls (a0_0 : Bool) (A0_1 : Option Addr) (c0_1 : Nat) (l0_1 : List Bool) (a1 : Int) (r1 : Bool) (r2 : List Bool) (r3 : Int) (w : World) (hr0_1 : Kd.C Kd.bool w A0_1 l0_1.length l0_1) (hc0_1 : l0_1.length ≤ c0_1) (h : lock_Unlock.f a0_0 l0_1 a1 = some (r1, r2, r3)) :
    Calls Try.prog 30 #[.agg #[.bool a0_0, .slice A0_1 l0_1.length c0_1], .int .i64 a1] w fun e w' => ∃ v1_ : Value, e = .returned (.tuple #[.agg #[.bool r1, v1_], .int .i64 r3]) ∧ Kd.R Kd.bool 4 w' w.heap.size (fun _ => True) v1_ r2 ∧ Below w.heap.size w w' := by
  have hu25 := Try.underlying25
  have hu64 := Try.underlying64
  have hu66 := Try.underlying66
  unfold lock_Unlock.f at h
  obtain ⟨e, he, h⟩ := Option.bind_eq_some_iff.mp h
  have HE := Aside0.mk he
  have HR := Aside0.mk hr0_1
  clear he hr0_1
  by_cases c : e = 0
  · subst c
    rw [if_pos rfl] at h
    by_cases c1 : a1 < 0
    · rw [if_pos c1] at h
      simp only [Option.some.injEq, Prod.mk.injEq] at h
      obtain ⟨rfl, rfl, rfl⟩ := h
      have d1 : decide (a1 < 0) = true := decide_eq_true c1
      clear c1
      go_enter Try.func30, Try.ntmps30
      go_wp2_with (first | (go_at_call 28; refine (lock_Check.calls 4096 a0_0 A0_1 c0_1 l0_1 0 _ ?hr hc0_1 HE.out).mono ?_; (case hr => exact Kd.C_below HR.out (((Below.refl _ w).alloc (Nat.le_refl _) _).alloc (by simp) _)); rintro e w1 ⟨rfl, hbw⟩; have HS := Aside0.mk (show Two w w1 _ _ from two_boxes hbw); obtain ⟨q0, q1, q2, q3⟩ := con_cells HS.out.2.1; obtain ⟨q4, q5, q6, q7⟩ := con_cells HS.out.2.2; have ql := blk_lt HS.out.2.1; have ql' := blk_lt HS.out.2.2; clear hbw))
      exact bodyPost_ret (results_ct rfl _ _ (w.heap.size + 1) 25 #[.bool false, .slice none 0 0] (0, 0) _ rfl (blk_put (blk_put HS.out.2.2 0 _ rfl) 1 _ rfl) hu25 rfl (by kernel_rfl)) rfl ⟨_, rfl, Kd.R_nil _ _ _ _ _, (HS.out.1.setCell (p := ⟨w.heap.size + 1, 0, none⟩) (Nat.le_succ _) _).setCell (p := ⟨w.heap.size + 1, 1, none⟩) (Nat.le_succ _) _⟩
    · rw [if_neg c1] at h
      have d1 : decide (a1 < 0) = false := decide_eq_false c1
      by_cases c2 : (l0_1.length : Int) ≤ a1
      · rw [if_pos c2] at h
        simp only [Option.some.injEq, Prod.mk.injEq] at h
        obtain ⟨rfl, rfl, rfl⟩ := h
        have d2 : decide ((l0_1.length : Int) ≤ a1) = true := decide_eq_true c2
        clear c1 c2
        go_enter Try.func30, Try.ntmps30
        go_wp2_with (first | (go_at_call 28; refine (lock_Check.calls 4096 a0_0 A0_1 c0_1 l0_1 0 _ ?hr hc0_1 HE.out).mono ?_; (case hr => exact Kd.C_below HR.out (((Below.refl _ w).alloc (Nat.le_refl _) _).alloc (by simp) _)); rintro e w1 ⟨rfl, hbw⟩; have HS := Aside0.mk (show Two w w1 _ _ from two_boxes hbw); obtain ⟨q0, q1, q2, q3⟩ := con_cells HS.out.2.1; obtain ⟨q4, q5, q6, q7⟩ := con_cells HS.out.2.2; have ql := blk_lt HS.out.2.1; have ql' := blk_lt HS.out.2.2; clear hbw))
        exact bodyPost_ret (results_ct rfl _ _ (w.heap.size + 1) 25 #[.bool false, .slice none 0 0] (0, 0) _ rfl (blk_put (blk_put HS.out.2.2 0 _ rfl) 1 _ rfl) hu25 rfl (by kernel_rfl)) rfl ⟨_, rfl, Kd.R_nil _ _ _ _ _, (HS.out.1.setCell (p := ⟨w.heap.size + 1, 0, none⟩) (Nat.le_succ _) _).setCell (p := ⟨w.heap.size + 1, 1, none⟩) (Nat.le_succ _) _⟩
      · rw [if_neg c2] at h
        have d2 : decide ((l0_1.length : Int) ≤ a1) = false := decide_eq_false c2
        have HP := Aside0.mk (show 0 < l0_1.length by omega)
        by_cases c3 : l0_1.length ≤ 64
        · rw [if_pos c3] at h
          have HL := Aside0.mk c3
          clear c3
          by_cases c4 : (missOf (contactsOf a0_0 l0_1)).length = 0
          · rw [if_pos c4] at h
            simp only [Option.some.injEq, Prod.mk.injEq] at h
            obtain ⟨rfl, rfl, rfl⟩ := h
            have d3 : decide (0 < (missOf (contactsOf a0_0 l0_1)).length) = false := decide_eq_false (by omega)
            have d3' : decide (0 < ((missOf (contactsOf a0_0 l0_1)).length : Int)) = false := decide_eq_false (by omega)
            have HI := Aside0.mk c1
            have HI' := Aside0.mk c2
            clear c1 c2 c4
            go_enter Try.func30, Try.ntmps30
            go_upto_region 10 with (first | (go_at_call 28; refine (lock_Check.calls 4096 a0_0 A0_1 c0_1 l0_1 0 _ ?hr hc0_1 HE.out).mono ?_; (case hr => exact Kd.C_below HR.out (((Below.refl _ w).alloc (Nat.le_refl _) _).alloc (by simp) _)); rintro e w1 ⟨rfl, hbw⟩; have HS := Aside0.mk (show Two w w1 _ _ from two_boxes hbw); obtain ⟨q0, q1, q2, q3⟩ := con_cells HS.out.2.1; obtain ⟨q4, q5, q6, q7⟩ := con_cells HS.out.2.2; have ql := blk_lt HS.out.2.1; have ql' := blk_lt HS.out.2.2; clear hbw) | (go_at_call 42; refine (of_calls _ _ _ _ _).mono ?_; rintro e wo ⟨rfl, hb⟩; clear q0 q1 q2 q3 q4 q5 q6 q7 ql ql'; have HS1 := Aside0.mk (HS.out.below hb); clear HS; have HS := HS1; clear HS1; obtain ⟨q0, q1, q2, q3⟩ := con_cells HS.out.2.1; obtain ⟨q4, q5, q6, q7⟩ := con_cells HS.out.2.2; have ql := blk_lt HS.out.2.1; have ql' := blk_lt HS.out.2.2; clear hb) | (go_at_call 43; refine (chain_missing.calls A0_1 c0_1 a0_0 l0_1 _ ?hr HL.out).mono ?_; (case hr => exact Kd.C_below HR.out HS.out.1); rintro e wm ⟨vm, rfl, hRm, hb⟩; obtain ⟨Am, cm, rfl⟩ := Kd.R_slice hRm; clear hRm; clear q0 q1 q2 q3 q4 q5 q6 q7 ql ql'; have HS1 := Aside0.mk (HS.out.below hb); clear HS; have HS := HS1; clear HS1; obtain ⟨q0, q1, q2, q3⟩ := con_cells HS.out.2.1; obtain ⟨q4, q5, q6, q7⟩ := con_cells HS.out.2.2; have ql := blk_lt HS.out.2.1; have ql' := blk_lt HS.out.2.2; clear hb) | (go_at_call 49; refine (chain_clone a0_0 A0_1 c0_1 l0_1 _ ?hr HP.out HL.out).mono ?_; (case hr => exact Kd.C_below HR.out HS.out.1); rintro e wc ⟨vc, rfl, hRc, hb⟩; obtain ⟨gc, cc, rfl, hgc, hgc', cells, hcells⟩ := Kd.R_form hRc HP.out; have HG := Aside0.mk (show w.heap.size + 2 ≤ gc by omega); have HRC := Aside0.mk (Kd.R_lower hRc HS.out.1.size); clear hRc hgc hgc' hcells; clear q0 q1 q2 q3 q4 q5 q6 q7 ql ql'; have HS1 := Aside0.mk (HS.out.below hb); clear HS; have HS := HS1; clear HS1; obtain ⟨q0, q1, q2, q3⟩ := con_cells HS.out.2.1; obtain ⟨q4, q5, q6, q7⟩ := con_cells HS.out.2.2; have ql := blk_lt HS.out.2.1; have ql' := blk_lt HS.out.2.2; clear hb))
            have hgl : gc < wc.heap.size := Kd.R_lt HRC.out gc rfl
            obtain ⟨W5, hW5⟩ : ∃ W5, (wc.alloc (Obj.cells #[Value.bool a0_0, Value.slice (some { block := gc, off := 0 }) l0_1.length cc] 64)) = W5 := ⟨_, rfl⟩
            have HT := Aside0.mk (show Two w W5 _ _ from HS.out.below (by rw [← hW5]; exact (Below.refl _ wc).alloc (Nat.le_refl _) _))
            have HO := Aside0.mk (show W5.heap[wc.heap.size]? = some (.cells #[Value.bool a0_0, Value.slice (some { block := gc, off := 0 }) l0_1.length cc] 64 (0, 0)) by rw [← hW5]; exact blk_new wc _)
            have HRD := Aside0.mk (show Kd.R Kd.bool 4 W5 w.heap.size (fun _ => True) (.slice (some ⟨gc, 0, none⟩) l0_1.length cc) l0_1 by rw [← hW5]; exact Kd.R_alloc HRC.out _)
            rw [hW5]
            have HWZ := Aside0.mk ql'
            clear q0 q1 q2 q3 q4 q5 q6 q7 ql ql'
            obtain ⟨q4, q5, q6, q7⟩ := con_cells HT.out.2.2
            obtain ⟨q0, q1, q2, q3⟩ := con_cells HO.out
            have p1 : (0 ≤ a1) = True := eq_true (by have := HI.out; omega)
            have p2 : (a1 < (l0_1.length : Int)) = True := eq_true (by have := HI'.out; omega)
            have HCE := Kd.R_cell false HRD.out a1 (by have := HI.out; omega) (by have := HI'.out; omega)
            obtain ⟨q8, q9⟩ := HCE
            have n1 : wc.heap.size ≠ gc := by omega
            have n2 : gc ≠ wc.heap.size := by omega
            have n3 : wc.heap.size ≠ w.heap.size + 1 := by have := HWZ.out; omega
            have n4 : w.heap.size + 1 ≠ wc.heap.size := by have := HWZ.out; omega
            have n5 : gc ≠ w.heap.size + 1 := by have := HG.out; omega
            have n6 : w.heap.size + 1 ≠ gc := by have := HG.out; omega
            go_wp2
            have r1 := Kd.R_types (Kd.R_types HRD.out HO.out (by decide)) HT.out.2.2 (by decide)
            have r2 := Kd.R_far (p := ⟨wc.heap.size, 0, none⟩) r1 (fun _ hk => hk.1.2) (.bool false)
            have r3 := (Kd.R_put r2 a1 false).1
            have r5 := Kd.R_far (p := ⟨w.heap.size + 1, 1, none⟩) (Kd.R_far (p := ⟨w.heap.size + 1, 0, none⟩) r3 (fun _ hk => hk.2) (.bool false)) (fun _ hk => hk.2) (.slice (some ⟨gc, 0, none⟩) l0_1.length cc)
            have hz1 : w.heap.size ≤ wc.heap.size := by have := HWZ.out; omega
            have hz2 : w.heap.size ≤ gc := by have := HG.out; omega
            exact bodyPost_ret (results_ct rfl _ _ (w.heap.size + 1) 25 #[.bool false, .slice (some ⟨gc, 0, none⟩) l0_1.length cc] (0, 0) _ rfl (blk_put (blk_put (blk_far (p := ⟨gc, a1.toNat, none⟩) (blk_far (p := ⟨wc.heap.size, 0, none⟩) HT.out.2.2 n4 _) n6 _) 0 _ rfl) 1 _ rfl) hu25 rfl (by kernel_rfl)) rfl ⟨_, rfl, Kd.R_mono r5 (fun _ _ => trivial), (((HT.out.1.setCell (p := ⟨wc.heap.size, 0, none⟩) hz1 _).setCell (p := ⟨gc, a1.toNat, none⟩) hz2 _).setCell (p := ⟨w.heap.size + 1, 0, none⟩) (Nat.le_succ _) _).setCell (p := ⟨w.heap.size + 1, 1, none⟩) (Nat.le_succ _) _⟩
          · rw [if_neg c4] at h
            simp only [Option.some.injEq, Prod.mk.injEq] at h
            obtain ⟨rfl, rfl, rfl⟩ := h
            have d3 : decide (0 < (missOf (contactsOf a0_0 l0_1)).length) = true := decide_eq_true (by omega)
            have d3' : decide (0 < ((missOf (contactsOf a0_0 l0_1)).length : Int)) = true := decide_eq_true (by omega)
            clear c1 c2 c4
            go_enter Try.func30, Try.ntmps30
            go_wp2_with (first | (go_at_call 28; refine (lock_Check.calls 4096 a0_0 A0_1 c0_1 l0_1 0 _ ?hr hc0_1 HE.out).mono ?_; (case hr => exact Kd.C_below HR.out (((Below.refl _ w).alloc (Nat.le_refl _) _).alloc (by simp) _)); rintro e w1 ⟨rfl, hbw⟩; have HS := Aside0.mk (show Two w w1 _ _ from two_boxes hbw); obtain ⟨q0, q1, q2, q3⟩ := con_cells HS.out.2.1; obtain ⟨q4, q5, q6, q7⟩ := con_cells HS.out.2.2; have ql := blk_lt HS.out.2.1; have ql' := blk_lt HS.out.2.2; clear hbw) | (go_at_call 42; refine (of_calls _ _ _ _ _).mono ?_; rintro e wo ⟨rfl, hb⟩; clear q0 q1 q2 q3 q4 q5 q6 q7 ql ql'; have HS1 := Aside0.mk (HS.out.below hb); clear HS; have HS := HS1; clear HS1; obtain ⟨q0, q1, q2, q3⟩ := con_cells HS.out.2.1; obtain ⟨q4, q5, q6, q7⟩ := con_cells HS.out.2.2; have ql := blk_lt HS.out.2.1; have ql' := blk_lt HS.out.2.2; clear hb) | (go_at_call 43; refine (chain_missing.calls A0_1 c0_1 a0_0 l0_1 _ ?hr HL.out).mono ?_; (case hr => exact Kd.C_below HR.out HS.out.1); rintro e wm ⟨vm, rfl, hRm, hb⟩; obtain ⟨Am, cm, rfl⟩ := Kd.R_slice hRm; clear hRm; clear q0 q1 q2 q3 q4 q5 q6 q7 ql ql'; have HS1 := Aside0.mk (HS.out.below hb); clear HS; have HS := HS1; clear HS1; obtain ⟨q0, q1, q2, q3⟩ := con_cells HS.out.2.1; obtain ⟨q4, q5, q6, q7⟩ := con_cells HS.out.2.2; have ql := blk_lt HS.out.2.1; have ql' := blk_lt HS.out.2.2; clear hb))
            exact bodyPost_ret (results_ct rfl _ _ (w.heap.size + 1) 25 #[.bool false, .slice none 0 0] (0, 0) _ rfl (blk_put (blk_put HS.out.2.2 0 _ rfl) 1 _ rfl) hu25 rfl (by kernel_rfl)) rfl ⟨_, rfl, Kd.R_nil _ _ _ _ _, (HS.out.1.setCell (p := ⟨w.heap.size + 1, 0, none⟩) (Nat.le_succ _) _).setCell (p := ⟨w.heap.size + 1, 1, none⟩) (Nat.le_succ _) _⟩
        · rw [if_neg c3] at h
          cases h
  · rw [if_neg c] at h
    have cb : (e != 0) = true := bne_iff_ne.mpr c
    clear c
    simp only [Option.some.injEq, Prod.mk.injEq] at h
    obtain ⟨rfl, rfl, rfl⟩ := h
    go_enter Try.func30, Try.ntmps30
    go_wp2_with (first | (go_at_call 28; refine (lock_Check.calls 4096 a0_0 A0_1 c0_1 l0_1 e _ ?hr hc0_1 HE.out).mono ?_; (case hr => exact Kd.C_below HR.out (((Below.refl _ w).alloc (Nat.le_refl _) _).alloc (by simp) _)); rintro e w1 ⟨rfl, hbw⟩; have HS := Aside0.mk (show Two w w1 _ _ from two_boxes hbw); obtain ⟨q0, q1, q2, q3⟩ := con_cells HS.out.2.1; obtain ⟨q4, q5, q6, q7⟩ := con_cells HS.out.2.2; have ql := blk_lt HS.out.2.1; have ql' := blk_lt HS.out.2.2; clear hbw))
    exact bodyPost_ret (results_ct rfl _ _ (w.heap.size + 1) 25 #[.bool false, .slice none 0 0] (0, 0) _ rfl (blk_put (blk_put HS.out.2.2 0 _ rfl) 1 _ rfl) hu25 rfl (by kernel_rfl)) rfl ⟨_, rfl, Kd.R_nil _ _ _ _ _, (HS.out.1.setCell (p := ⟨w.heap.size + 1, 0, none⟩) (Nat.le_succ _) _).setCell (p := ⟨w.heap.size + 1, 1, none⟩) (Nat.le_succ _) _⟩

end Go.Proofs.Ytdkabbjknclifaa.F
end
section
namespace Go.Proofs
open Go.Shelf
def Try.lays169_ren : Go.Shelf.Ren := ⟨fun | 169 => 46 | n => n, fun | 70 => 69 | 9 => 9 | 0 => 0 | 72 => 72 | 37 => 70 | 127 => 85 | 3 => 3 | 5 => 5 | n => n, fun | n => n⟩
end Go.Proofs
end
section
namespace Go.Proofs
open Go.Shelf
theorem Try.lays169 : Go.Proofs.Lays.n169 Try.prog Try.lays169_ren := {
  mixed := by kernel_rfl
  f169 := Try.func46.trans (congrArg some (by kernel_rfl))
  t0 := Try.underlying0
  a0 := Try.isAgg0
  z0 := Try.sizeOf0
  v0 := Try.zeroValue0
  t3 := Try.underlying3
  a3 := Try.isAgg3
  z3 := Try.sizeOf3
  v3 := Try.zeroValue3
  t9 := Try.underlying9
  a9 := Try.isAgg9
  z9 := Try.sizeOf9
  v9 := Try.zeroValue9
  t37 := Try.underlying70
  a37 := Try.isAgg70
  z37 := Try.sizeOf70
  v37 := Try.zeroValue70
  t70 := Try.underlying69
  a70 := Try.isAgg69
  z70 := Try.sizeOf69
  v70 := Try.zeroValue69
  t72 := Try.underlying72
  a72 := Try.isAgg72
  z72 := Try.sizeOf72
  v72 := Try.zeroValue72
  t127 := Try.underlying85
  a127 := Try.isAgg85
  z127 := Try.sizeOf85
  v127 := Try.zeroValue85 }
end Go.Proofs
end
section
namespace Go.Proofs
open Go.Shelf
theorem Try.Builder_Extra_169 : Builder.Extra Try.prog Try.lays169_ren := {
  sizeBuilder := by kernel_rfl
  liesBuilder := by kernel_rfl
  t5 := Try.underlying5
  a5 := Try.isAgg5
  z5 := Try.sizeOf5
  v5 := Try.zeroValue5
  infoByte := by kernel_rfl
  cellsByte := by kernel_rfl
  sizeByte := by kernel_rfl
  neB5 := by decide }
end Go.Proofs
end
section
namespace Go.Proofs
open Go.Shelf
open Go.RowKit in
theorem Try.Builder_String_any_k (B b : Nat) (l : List UInt8) (w : World) (h : Lib.IsBuilderF 72 5 B b (Lib.byteCells l) w) (hBw : B ≤ w.heap.size) :
    Calls Try.prog 46 #[.pointer (some ⟨b, 0, none⟩)] w fun e w' => e = .returned (.string ⟨l.toArray⟩) ∧ (Lib.IsBuilderF 72 5 B b (Lib.byteCells l) w' ∧ Below B w w' ∧ Lib.OthersKept 5 (some b) w w') := Any.Builder_String_any_k Try.lays169 Try.Builder_Extra_169 B b l w h hBw
end Go.Proofs
end
section
namespace Go.Proofs.Ytdkabbjknclifaa.F
open Go.RowKit Go.Shelf Go.Proofs.YtdkabbjknclifaaW.PrintWords Go.Proofs.YtdkabbjknclifaaW.PrintLast Go.Proofs.YtdkabbjknclifaaW.PrintMore
attribute [local go_sem] Oper.semAt_some
set_option linter.unusedVariables false
set_option linter.unusedSimpArgs false
set_option maxHeartbeats 1000000 in
set_option maxRecDepth 100000 in
theorem copyCheck_used (b : Nat) (w : World) (h0 : w.cell? ⟨b, 0, none⟩ = some (.pointer (some ⟨b, 0, none⟩))) :
    Calls Try.prog 53 #[.pointer (some ⟨b, 0, none⟩)] w fun e w' => e = .returned (.tuple #[]) ∧ w' = w := by
  obtain ⟨j, hj, _⟩ := Option.map_eq_some_iff.1 (show (Try.prog.info? 72).map (·.size) = some 2 by kernel_rfl)
  have hu72 := Try.underlying72
  have hu69 := Try.underlying69
  go_enter Try.func53, Try.ntmps53
  go_wp2
  rw [Lib.run_neq_ptr_same w _ Try.underlying69 hj]
  go_wp2
  go_end0
  exact ⟨rfl, rfl⟩
end Go.Proofs.Ytdkabbjknclifaa.F
end
section
namespace Go.Proofs.Ytdkabbjknclifaa.F
open Go.RowKit Go.Shelf Go.Proofs.YtdkabbjknclifaaW.PrintWords Go.Proofs.YtdkabbjknclifaaW.PrintLast Go.Proofs.YtdkabbjknclifaaW.PrintMore
attribute [local go_sem] Oper.semAt_some
set_option linter.unusedVariables false
set_option linter.unusedSimpArgs false
set_option maxHeartbeats 1000000 in
set_option maxRecDepth 100000 in
theorem copyCheck_fresh (b : Nat) (w : World) (h0 : w.cell? ⟨b, 0, none⟩ = some (.pointer none)) (hsh : w.shape? b = some (72, 2)) (hfz : w.frozen? ⟨b, 0, none⟩ = false) :
    Calls Try.prog 53 #[.pointer (some ⟨b, 0, none⟩)] w fun e w' => e = .returned (.tuple #[]) ∧ w' = w.setCell ⟨b, 0, none⟩ (.pointer (some ⟨b, 0, none⟩)) := by
  obtain ⟨j, hj, hjs⟩ := Option.map_eq_some_iff.1 (show (Try.prog.info? 72).map (·.size) = some 2 by kernel_rfl)
  have hu72 := Try.underlying72
  have hu69 := Try.underlying69
  go_enter Try.func53, Try.ntmps53
  go_wp2
  rw [Lib.run_to_unsafe w ⟨b, 0, none⟩ Try.underlying69 Try.underlying90 hj (by rw [hjs]; decide) hsh (Nat.zero_lt_succ 1)]
  simp only [Result.andThen]
  rw [Oper.upon_value]
  go_wp2
  rw [run_callFunc_extern Try.func56 (by kernel_rfl) (by kernel_rfl) (by kernel_rfl) (e := Extern.AbiNoEscape.same) (by kernel_rfl)]
  rw [Lib.run_noEscape]
  simp only [Result.andThen]
  rw [Oper.upon_value]
  go_wp2
  rw [Lib.run_from_unsafe w ⟨b, 0, none⟩ Try.underlying90 Try.underlying69 hj hsh (by kernel_rfl)]
  simp only [Result.andThen]
  rw [Oper.upon_value]
  go_wp2
  go_end0
  exact ⟨rfl, rfl⟩
end Go.Proofs.Ytdkabbjknclifaa.F
end
section
namespace Go.Proofs.Ytdkabbjknclifaa.F
open Go.RowKit Go.Shelf Go.Proofs.YtdkabbjknclifaaW.PrintWords Go.Proofs.YtdkabbjknclifaaW.PrintLast Go.Proofs.YtdkabbjknclifaaW.PrintMore
attribute [local go_sem] Oper.semAt_some
set_option linter.unusedVariables false
set_option linter.unusedSimpArgs false
theorem copyCheck_any (B b : Nat) (bs : List Value) (w : World) (h : Lib.IsBuilderF 72 5 B b bs w) :
    Calls Try.prog 53 #[.pointer (some ⟨b, 0, none⟩)] w fun e w' => e = .returned (.tuple #[]) ∧ (Lib.BuilderAtF 72 5 B b (.pointer (some ⟨b, 0, none⟩)) bs w' ∧ Below B w w' ∧ Lib.OthersKept 5 (some b) w w') := by
  rcases h with h | h
  · refine (copyCheck_fresh b w h.cell0 h.shape h.frozen0).mono ?_
    rintro e w' ⟨rfl, rfl⟩
    exact ⟨rfl, h.used _, (Below.refl B w).setCell (p := ⟨b, 0, none⟩) h.1 _, (Lib.OthersKept.refl _ _ w).setCell ⟨b, 0, none⟩ rfl _⟩
  · refine (copyCheck_used b w h.cell0).mono ?_
    rintro e w' ⟨rfl, rfl⟩
    exact ⟨rfl, h, Below.refl B _, Lib.OthersKept.refl _ _ _⟩
end Go.Proofs.Ytdkabbjknclifaa.F
end
section
namespace Go.Proofs.Ytdkabbjknclifaa.F
open Go.RowKit Go.Shelf Go.Proofs.YtdkabbjknclifaaW.PrintWords Go.Proofs.YtdkabbjknclifaaW.PrintLast Go.Proofs.YtdkabbjknclifaaW.PrintMore
attribute [local go_sem] Oper.semAt_some
set_option linter.unusedVariables false
set_option linter.unusedSimpArgs false
set_option maxHeartbeats 2000000 in
set_option maxRecDepth 100000 in
theorem writeByte (B b : Nat) (bs : List Value) (c : Int) (w : World) (h : Lib.IsBuilderF 72 5 B b bs w) (hlen : bs.length + 1 ≤ 140737488355328) (hBw : B ≤ w.heap.size) :
    Calls Try.prog 45 #[.pointer (some ⟨b, 0, none⟩), .int .u8 c] w fun e w' => e = .returned .nilIface ∧ (Lib.BuilderAtF 72 5 B b (.pointer (some ⟨b, 0, none⟩)) (bs ++ [.int .u8 c]) w' ∧ Below B w w' ∧ Lib.OthersKept 5 (some b) w w') := by
  have hinfo : (Try.prog.info? 5).map (fun i => (i.zero, i.size, i.bytes)) = some (some (.int .u8 0), 1, 1) := by kernel_rfl
  obtain ⟨i0, hi, hz0, hz1, hz2⟩ := info_parts hinfo
  have hu72 := Try.underlying72
  have hu70 := Try.underlying70
  have hu69 := Try.underlying69
  have e53 : ∀ args w, (callFunc 53 args).run Try.prog w = .ok (.enter 53 args) w := enters_of Try.func53 (by kernel_rfl) rfl
  go_enter Try.func45, Try.ntmps45
  go_wp2_with (go_at_call 53; refine (copyCheck_any B b bs _ h).mono ?_)
  rintro e w1 ⟨rfl, h1, hb1, hk1⟩
  obtain ⟨hB, v, hbk, hown, hne⟩ := h1
  have c0 : w1.cell? ⟨b, 0, none⟩ = some (.pointer (some ⟨b, 0, none⟩)) := by rw [Lib.cell_of_heap hbk]; rfl
  have c1 : w1.cell? ⟨b, 1, none⟩ = some v := by rw [Lib.cell_of_heap hbk]; rfl
  go_wp2_with (at_builtin; refine wpList_append_ownF _ rfl _ _ 70 rfl B 5 i0 (.int .u8 0) 1 1 Try.underlying70 hi hz0 hz1 hz2 rfl (by decide) _ _ _ rfl (hown.alloc _) ⟨w1.heap.size, 0, none⟩ 1 1 [.int .u8 c] rfl rfl ?c1 ?c2 ?c3 ?c4 ?c5 ?_)
  case c1 =>
    intro j u hj
    match j, hj with
    | 0, hj => simp at hj; subst hj; simp [Addr.add]
  case c2 => intro u hu; simp at hu; subst hu; rfl
  case c3 => unfold maxLen; omega
  case c4 => omega
  case c5 => have := hb1.size; simp; omega
  intro v' w2 hown' hgrow _
  have hlt : b < w1.heap.size := by
    rcases Nat.lt_or_ge b w1.heap.size with h' | h'
    · exact h'
    · simp [Array.getElem?_eq_none h'] at hbk
  have hb2 : w2.heap[b]? = some (.cells #[.pointer (some ⟨b, 0, none⟩), v] 72 (0, 0)) := by
    rw [hgrow.block b (by simp; omega) (fun e => hne e.symm), Lib.alloc_old w1 _ b hlt]
    exact hbk
  have d0 : w2.cell? ⟨b, 0, none⟩ = some (.pointer (some ⟨b, 0, none⟩)) := by rw [Lib.cell_of_heap hb2]; rfl
  have d1 : w2.cell? ⟨b, 1, none⟩ = some v := by rw [Lib.cell_of_heap hb2]; rfl
  have f1 : w2.frozen? ⟨b, 1, none⟩ = false := Lib.frozen_of_heap hb2 1
  obtain ⟨g, cap, rfl⟩ : ∃ g cap, v' = .slice (some ⟨g, 0, none⟩) (bs.length + 1) cap := by
    rcases hown'.2 with ⟨_, h0⟩ | ⟨g, cap, cur, fz, hv, _⟩
    · omega
    · exact ⟨g, cap, hv⟩
  go_wp2
  go_ret
  refine ⟨rfl, ?_, ?_, ((hk1.alloc _).grown hgrow (Lib.ownsRowF_kind (hown.alloc _))).setCell ⟨b, 1, none⟩ rfl _⟩
  · exact Lib.BuilderAtF.put (T := 72) (e := 5) hB hb2 (bs' := bs ++ [.int .u8 c]) (by simpa using hown') (by decide)
  · exact ((hb1.alloc (by have := hb1.size; omega) _).grown hgrow (by have := hb1.size; simp; omega) (fun k hk => (hown.lt k hk).1)).setCell (p := ⟨b, 1, none⟩) hB _
end Go.Proofs.Ytdkabbjknclifaa.F
end
section
namespace Go.Proofs.Ytdkabbjknclifaa.F
open Go.RowKit
def IterPlain {α : Type} (n : Nat) (P : Program) (gf : Nat) (lb : Array Value) (enc enc2 : α → Value) (keep : Nat → Prop) (N : Nat) (res : List α) (W : World) : Prop :=
  ∀ (l : Nat) (J : List α → World → Prop),
    (∀ pre x W1, J pre W1 → pre.length ≤ N → YieldAt Fence.wide (n - 1) P l #[enc x, enc2 x] W1 fun e W' =>
      e = .returned (.bool true) ∧ J (pre ++ [x]) W' ∧ Turned (fun k => ¬ keep k) W1 W' ∧ ∀ k, keep k → k < W1.heap.size) →
    J [] W →
    CallsIn Fence.wide n P gf (#[.func (.yield l) #[] #[]] ++ lb) W fun e W' => (∃ v, e = .returned v) ∧ J res W'
end Go.Proofs.Ytdkabbjknclifaa.F
end
section
namespace Go.Proofs.Ytdkabbjknclifaa.F
open Go.RowKit
def plainPost {α : Type} (D l : Nat) (keep : Nat → Prop) (I : List α → World → Prop) (xs : List α) (W W2 : World) : Exit → Act → World → Prop
  | .normal, _, W3 => W3.heap[l]? = W2.heap[l]? ∧ W3.heap[D]? = W2.heap[D]? ∧ I xs W3 ∧ Turned (fun k => ¬ keep k) W W3
  | _, _, _ => False
end Go.Proofs.Ytdkabbjknclifaa.F
end

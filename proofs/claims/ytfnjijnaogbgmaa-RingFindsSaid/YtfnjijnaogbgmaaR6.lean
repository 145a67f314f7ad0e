/- Rings: the chapter's examples. -/
import Derived.Test.YtfnjijnaogbgmaaR5
namespace Go.Sx.Ytfnjijnaogbgmaa
open Go Go.Sx Go.Proofs
set_option linter.unusedVariables false
set_option linter.unusedSimpArgs false
set_option maxRecDepth 100000

def heldOf : List Int → List Held
  | a :: b :: l => (IntKind.u64.wrap a, b, ()) :: heldOf l
  | _ => []
theorem heldOf_step {l : List Int} {i : Nat} (h : i + 1 < l.length) : heldOf (l.drop i) = (IntKind.u64.wrap (l.getD i 0), l.getD (i + 1) 0, ()) :: heldOf (l.drop (i + 2)) := by
  rw [dropD (show i < l.length by omega) 0, dropD (show i + 1 < l.length by omega) 0, heldOf]
theorem heldOf_end {l : List Int} {i : Nat} (h : l.length ≤ i + 1) : heldOf (l.drop i) = [] := by
  rcases (show l.length ≤ i ∨ l.length = i + 1 by omega) with q | q
  · rw [List.drop_of_length_le q]; rfl
  · rw [dropD (show i < l.length by omega) 0, List.drop_of_length_le (by omega)]; rfl
def S18 : List AV → Option FOut := sigSpec [IntsK] [HeldsK] (fun x : List Int × Unit => (heldOf x.1, ())) (fun x : List Int × Unit => x.1.length ≤ 1000)
set_option maxHeartbeats 4000000 in
theorem fn18 : FnOk Try.prog 18 S18 := by
  refine fn_ofB (rs := [.tmp 2]) (env [] trivial) Try.func18 (by kernel_rfl) rfl rfl Try.ntmps18 ?_
  rintro ⟨(l : List Int), u⟩ hl G hG hB hQ
  have hB := GB.of hB
  simp only at hl
  refine AM.run2 hG 100 (by cbv) ?_ ?_
  · (simp only [sxs, sxb, and_self, and_true, true_and, implies_true, imp_self, bne_eq_false_iff_eq, Nat.zero_add, Nat.le_refl, Int.toNat_natCast, Int.ofNat_lt, Int.natCast_nonneg, decide_eq_true_eq, decide_eq_false_iff_not, bne_iff_ne, ne_eq]; try dsimp only [Kd.T, Kds.T, AK.T, AKs.T])
  refine AM.emptySlot 3 38 HeldK rfl ?_
  refine AM.loopI (fun z : Nat × List Held => (frame 27 [(0, .ro I64 fun _ => l), (3, .sl 0 2 (.l 0) (.t fun _ => z.2.length)), (4, .int .i64 (.t fun _ => nI z.1))], [.row 38 HeldK (fun _ => z.2)])) (fun z => z.1 ≤ l.length + 1 ∧ z.2.length ≤ z.1 ∧ z.2 ++ heldOf (l.drop z.1) = heldOf l) (fun z => l.length + 2 - z.1) (0, []) ⟨Nat.zero_le _, Nat.zero_le _, rfl⟩ ?_ ?_ ?_
  · cbv; (simp only [sxs, sxb, and_self, and_true, true_and, implies_true, imp_self, bne_eq_false_iff_eq, Nat.zero_add, Nat.le_refl, Int.toNat_natCast, Int.ofNat_lt, Int.natCast_nonneg, decide_eq_true_eq, decide_eq_false_iff_not, bne_iff_ne, ne_eq]; try dsimp only [Kd.T, Kds.T, AK.T, AKs.T]); all_goals ((repeat' apply And.intro) <;> first | rfl | assumption | exact trivial)
  · cbv; (simp only [sxs, sxb, and_self, and_true, true_and, implies_true, imp_self, bne_eq_false_iff_eq, Nat.zero_add, Nat.le_refl, Int.toNat_natCast, Int.ofNat_lt, Int.natCast_nonneg, decide_eq_true_eq, decide_eq_false_iff_not, bne_iff_ne, ne_eq]; try dsimp only [Kd.T, Kds.T, AK.T, AKs.T]); all_goals ((repeat' apply And.intro) <;> first | rfl | assumption | exact trivial)
  rintro ⟨i, out⟩ ⟨hi, ho, he⟩ ih
  simp only at hi ho he
  have hw1 : IntKind.i64.wrap ((i : Int) + 1) = ((i + 1 : Nat) : Int) := w64s (by omega)
  have hw2 : IntKind.i64.wrap ((i : Int) + 2) = ((i + 2 : Nat) : Int) := by rw [w64 (by omega) (by omega)]; omega
  refine AM.run2 hG 100 (by cbv) ?_ ?_
  · (simp only [sxs, sxb, and_self, and_true, true_and, implies_true, imp_self, bne_eq_false_iff_eq, Nat.zero_add, Nat.le_refl, Int.toNat_natCast, Int.ofNat_lt, Int.natCast_nonneg, decide_eq_true_eq, decide_eq_false_iff_not, bne_iff_ne, ne_eq]; try dsimp only [Kd.T, Kds.T, AK.T, AKs.T])
  refine AM.case 9 rfl (fun h => ?_) (fun h => ?_) <;> (simp only [sxs, sxb, and_self, and_true, true_and, implies_true, imp_self, bne_eq_false_iff_eq, Nat.zero_add, Nat.le_refl, Int.toNat_natCast, Int.ofNat_lt, Int.natCast_nonneg, decide_eq_true_eq, decide_eq_false_iff_not, bne_iff_ne, ne_eq] at h; try dsimp only [Kd.T, Kds.T, AK.T, AKs.T] at h)
  · rw [hw1] at h
    rw [heldOf_step (by omega)] at he
    refine AM.run2 hG 100 (by cbv) ?_ ?_
    · (simp only [sxs, sxb, and_self, and_true, true_and, implies_true, imp_self, bne_eq_false_iff_eq, Nat.zero_add, Nat.le_refl, Int.toNat_natCast, Int.ofNat_lt, Int.natCast_nonneg, decide_eq_true_eq, decide_eq_false_iff_not, bne_iff_ne, ne_eq]; try dsimp only [Kd.T, Kds.T, AK.T, AKs.T])
      rw [hw1, Int.toNat_natCast]
      simp only [maxLen, List.length_take, List.length_cons, List.length_nil]
      exact ⟨by omega, by omega, ⟨by omega, by omega⟩, by omega, by omega, by omega⟩
    refine AM.ren hB [2] (by cbv) (by cbv) (by cbv) ?_ ?_ (ih (i + 2, out ++ [(IntKind.u64.wrap (l.getD i 0), l.getD (i + 1) 0, ())]) ⟨by simp only; omega, by simp only [List.length_append, List.length_cons, List.length_nil]; omega, by simp only; rw [List.append_assoc]; exact he⟩ (by simp only; omega))
    · (simp only [sxs, sxb, and_self, and_true, true_and, implies_true, imp_self, bne_eq_false_iff_eq, Nat.zero_add, Nat.le_refl, Int.toNat_natCast, Int.ofNat_lt, Int.natCast_nonneg, decide_eq_true_eq, decide_eq_false_iff_not, bne_iff_ne, ne_eq]; try dsimp only [Kd.T, Kds.T, AK.T, AKs.T])
      rw [List.length_append, hw2]
      exact ⟨rfl, rfl⟩
    · (simp only [sxs, sxb, and_self, and_true, true_and, implies_true, imp_self, bne_eq_false_iff_eq, Nat.zero_add, Nat.le_refl, Int.toNat_natCast, Int.ofNat_lt, Int.natCast_nonneg, decide_eq_true_eq, decide_eq_false_iff_not, bne_iff_ne, ne_eq]; try dsimp only [Kd.T, Kds.T, AK.T, AKs.T])
      rw [hw1, Int.toNat_natCast]
      rfl
  clear ih
  rw [hw1] at h
  rw [heldOf_end (by omega), List.append_nil] at he
  refine AM.frz [0] (by cbv) (by (simp only [sxs, sxb, and_self, and_true, true_and, implies_true, imp_self, bne_eq_false_iff_eq, Nat.zero_add, Nat.le_refl, Int.toNat_natCast, Int.ofNat_lt, Int.natCast_nonneg, decide_eq_true_eq, decide_eq_false_iff_not, bne_iff_ne, ne_eq]; try dsimp only [Kd.T, Kds.T, AK.T, AKs.T])) ?_
  refine AM.run2 hG 100 (by cbv) ?_ ?_
  · (simp only [sxs, sxb, and_self, and_true, true_and, implies_true, imp_self, bne_eq_false_iff_eq, Nat.zero_add, Nat.le_refl, Int.toNat_natCast, Int.ofNat_lt, Int.natCast_nonneg, decide_eq_true_eq, decide_eq_false_iff_not, bne_iff_ne, ne_eq]; try dsimp only [Kd.T, Kds.T, AK.T, AKs.T])
  refine AM.ret2 hG (by cbv) (by (simp only [sxs, sxb, and_self, and_true, true_and, implies_true, imp_self, bne_eq_false_iff_eq, Nat.zero_add, Nat.le_refl, Int.toNat_natCast, Int.ofNat_lt, Int.natCast_nonneg, decide_eq_true_eq, decide_eq_false_iff_not, bne_iff_ne, ne_eq]; try dsimp only [Kd.T, Kds.T, AK.T, AKs.T])) (hQ _ _ (FinRo.of (by cbv) (by cbv) ?_ ?_))
  · (simp only [sxs, sxb, and_self, and_true, true_and, implies_true, imp_self, bne_eq_false_iff_eq, Nat.zero_add, Nat.le_refl, Int.toNat_natCast, Int.ofNat_lt, Int.natCast_nonneg, decide_eq_true_eq, decide_eq_false_iff_not, bne_iff_ne, ne_eq]; try dsimp only [Kd.T, Kds.T, AK.T, AKs.T])
  try (simp only [sxs, sxb, and_self, and_true, true_and, implies_true, imp_self, bne_eq_false_iff_eq, Nat.zero_add, Nat.le_refl, Int.toNat_natCast, Int.ofNat_lt, Int.natCast_nonneg, decide_eq_true_eq, decide_eq_false_iff_not, bne_iff_ne, ne_eq]; try dsimp only [Kd.T, Kds.T, AK.T, AKs.T])
  rw [List.take_length]
  exact he
def putAll : Ring → Bool → List Int → Ring × Bool
  | r, ok, [] => (r, ok)
  | r, ok, w :: ws => if ok = true then putAll (putR r w).1 (eqI (putR r w).2.2 0) ws else (r, ok)
theorem putR_len (r : Ring) (w : Int) : (putR r w).1.2.2.1.length ≤ r.2.2.1.length + 1 := by
  rw [putR]
  split
  · simp
  · split
    · simp
    · split <;> simp
theorem putAll_no (r : Ring) : ∀ ws, putAll r false ws = (r, false)
  | [] => rfl
  | _ :: _ => rfl
def S25 : List AV → Option FOut := sigSpec [RingK, IntsK] [RingK, .bool] (fun x : Ring × List Int × Unit => ((putAll x.1 true x.2.1).1, (putAll x.1 true x.2.1).2, ())) (fun x : Ring × List Int × Unit => x.1.2.2.1.length ≤ 1000 ∧ x.2.1.length ≤ 1000)
set_option maxHeartbeats 4000000 in
theorem fn25 : FnOk Try.prog 25 S25 := by
  refine fn_ofB (rs := [.cell 4 27, .tmp 5]) (env [(6, S6)] ⟨fn6, trivial⟩) Try.func25 (by kernel_rfl) rfl rfl Try.ntmps25 ?_
  rintro ⟨⟨(cap : Int), (next : Int), (l : List Held), ⟨⟩⟩, (ws : List Int), u2⟩ ⟨hl, hwl⟩ G hG hB hQ
  have hB := GB.of hB
  simp only at hl hwl
  refine AM.run2 hG 100 (by cbv) ?_ ?_
  · (simp only [sxs, sxb, and_self, and_true, true_and, implies_true, imp_self, bne_eq_false_iff_eq, Nat.zero_add, Nat.le_refl, Int.toNat_natCast, Int.ofNat_lt, Int.natCast_nonneg, decide_eq_true_eq, decide_eq_false_iff_not, bne_iff_ne, ne_eq]; try dsimp only [Kd.T, Kds.T, AK.T, AKs.T])
  refine AM.loopI (fun z : Nat × Ring × Bool => (frame 35 [(1, .ro I64 fun _ => ws), (2, .ptr 0 0), (4, .ptr 1 0), (6, .bool (.t fun _ => z.2.2)), (7, .int .i64 (.t fun _ => nI z.1))],
    [.box 27 [.int .i64 (.t fun _ => z.2.1.1), .int .u64 (.t fun _ => z.2.1.2.1), .ro HeldK fun _ => z.2.1.2.2.1], .box 27 [.int .i64 (.l 0), .int .u64 (.l 0), .nils]]))
    (fun z => z.1 ≤ ws.length ∧ z.2.1.2.2.1.length ≤ 1000 + z.1 ∧ putAll z.2.1 z.2.2 (ws.drop z.1) = putAll (cap, next, l, ()) true ws) (fun z => ws.length - z.1) (0, (cap, next, l, ()), true) ⟨Nat.zero_le _, by simp only; omega, rfl⟩ ?_ ?_ ?_
  · cbv; (simp only [sxs, sxb, and_self, and_true, true_and, implies_true, imp_self, bne_eq_false_iff_eq, Nat.zero_add, Nat.le_refl, Int.toNat_natCast, Int.ofNat_lt, Int.natCast_nonneg, decide_eq_true_eq, decide_eq_false_iff_not, bne_iff_ne, ne_eq]; try dsimp only [Kd.T, Kds.T, AK.T, AKs.T]); all_goals ((repeat' apply And.intro) <;> first | rfl | assumption | exact trivial)
  · cbv; (simp only [sxs, sxb, and_self, and_true, true_and, implies_true, imp_self, bne_eq_false_iff_eq, Nat.zero_add, Nat.le_refl, Int.toNat_natCast, Int.ofNat_lt, Int.natCast_nonneg, decide_eq_true_eq, decide_eq_false_iff_not, bne_iff_ne, ne_eq]; try dsimp only [Kd.T, Kds.T, AK.T, AKs.T]); all_goals ((repeat' apply And.intro) <;> first | rfl | assumption | exact trivial)
  rintro ⟨i, ⟨rc, rn, rl, ⟨⟩⟩, ok⟩ ⟨hi, hr, he⟩ ih
  simp only at hi hr he
  refine AM.run2 hG 100 (by cbv) ?_ ?_
  · (simp only [sxs, sxb, and_self, and_true, true_and, implies_true, imp_self, bne_eq_false_iff_eq, Nat.zero_add, Nat.le_refl, Int.toNat_natCast, Int.ofNat_lt, Int.natCast_nonneg, decide_eq_true_eq, decide_eq_false_iff_not, bne_iff_ne, ne_eq]; try dsimp only [Kd.T, Kds.T, AK.T, AKs.T])
  refine AM.case 17 rfl (fun h => ?_) (fun h => ?_) <;> (simp only [sxs, sxb, and_self, and_true, true_and, implies_true, imp_self, bne_eq_false_iff_eq, Nat.zero_add, Nat.le_refl, Int.toNat_natCast, Int.ofNat_lt, Int.natCast_nonneg, decide_eq_true_eq, decide_eq_false_iff_not, bne_iff_ne, ne_eq] at h; try dsimp only [Kd.T, Kds.T, AK.T, AKs.T] at h)
  · obtain ⟨h, rfl⟩ := h
    rw [dropD h 0, putAll, if_pos rfl] at he
    have hpl := putR_len (rc, rn, rl, ()) (ws.getD i 0)
    simp only at hpl
    refine AM.run2 hG 100 (by cbv) ?_ ?_
    · (simp only [sxs, sxb, and_self, and_true, true_and, implies_true, imp_self, bne_eq_false_iff_eq, Nat.zero_add, Nat.le_refl, Int.toNat_natCast, Int.ofNat_lt, Int.natCast_nonneg, decide_eq_true_eq, decide_eq_false_iff_not, bne_iff_ne, ne_eq]; try dsimp only [Kd.T, Kds.T, AK.T, AKs.T])
      exact ⟨h, h, by omega⟩
    refine AM.ren hB [0, 1] (by cbv) (by cbv) (by cbv) ?_ ?_ (ih (i + 1, (putR (rc, rn, rl, ()) (ws.getD i 0)).1, eqI (putR (rc, rn, rl, ()) (ws.getD i 0)).2.2 0) ⟨by simp only; omega, by simp only; omega, he⟩ (by simp only; omega))
    · (simp only [sxs, sxb, and_self, and_true, true_and, implies_true, imp_self, bne_eq_false_iff_eq, Nat.zero_add, Nat.le_refl, Int.toNat_natCast, Int.ofNat_lt, Int.natCast_nonneg, decide_eq_true_eq, decide_eq_false_iff_not, bne_iff_ne, ne_eq]; try dsimp only [Kd.T, Kds.T, AK.T, AKs.T])
      rw [w64s (by omega)]
    · (simp only [sxs, sxb, and_self, and_true, true_and, implies_true, imp_self, bne_eq_false_iff_eq, Nat.zero_add, Nat.le_refl, Int.toNat_natCast, Int.ofNat_lt, Int.natCast_nonneg, decide_eq_true_eq, decide_eq_false_iff_not, bne_iff_ne, ne_eq]; try dsimp only [Kd.T, Kds.T, AK.T, AKs.T])
  have hend : putAll (cap, next, l, ()) true ws = ((rc, rn, rl, ()), ok) := by
    rw [← he]
    by_cases q : i < ws.length
    · have := h q
      cases ok
      · exact putAll_no _ _
      · simp at this
    · rw [List.drop_of_length_le (by omega)]; rfl
  clear ih
  refine AM.run2 hG 100 (by cbv) ?_ ?_
  · (simp only [sxs, sxb, and_self, and_true, true_and, implies_true, imp_self, bne_eq_false_iff_eq, Nat.zero_add, Nat.le_refl, Int.toNat_natCast, Int.ofNat_lt, Int.natCast_nonneg, decide_eq_true_eq, decide_eq_false_iff_not, bne_iff_ne, ne_eq]; try dsimp only [Kd.T, Kds.T, AK.T, AKs.T])
  refine AM.ret2 hG (by cbv) (by (simp only [sxs, sxb, and_self, and_true, true_and, implies_true, imp_self, bne_eq_false_iff_eq, Nat.zero_add, Nat.le_refl, Int.toNat_natCast, Int.ofNat_lt, Int.natCast_nonneg, decide_eq_true_eq, decide_eq_false_iff_not, bne_iff_ne, ne_eq]; try dsimp only [Kd.T, Kds.T, AK.T, AKs.T])) (hQ _ _ (FinRo.of (by cbv) (by cbv) ?_ ?_))
  · (simp only [sxs, sxb, and_self, and_true, true_and, implies_true, imp_self, bne_eq_false_iff_eq, Nat.zero_add, Nat.le_refl, Int.toNat_natCast, Int.ofNat_lt, Int.natCast_nonneg, decide_eq_true_eq, decide_eq_false_iff_not, bne_iff_ne, ne_eq]; try dsimp only [Kd.T, Kds.T, AK.T, AKs.T])
  try (simp only [sxs, sxb, and_self, and_true, true_and, implies_true, imp_self, bne_eq_false_iff_eq, Nat.zero_add, Nat.le_refl, Int.toNat_natCast, Int.ofNat_lt, Int.natCast_nonneg, decide_eq_true_eq, decide_eq_false_iff_not, bne_iff_ne, ne_eq]; try dsimp only [Kd.T, Kds.T, AK.T, AKs.T])
  rw [hend]
  exact ⟨⟨rfl, rfl, rfl⟩, rfl⟩
def shownP : Ring := (3, 4, [(1, 7, ()), (2, 8, ()), (3, 7, ())], ())
def afterP : Ring := (3, 5, [(1, 7, ()), (3, 7, ()), (4, 9, ())], ())
def S12 : List AV → Option FOut := sigSpec [] [RingK, .bool] (fun x : Unit => (shownP, true, ())) (fun _ => True)
set_option maxHeartbeats 4000000 in
theorem fn12 : FnOk Try.prog 12 S12 := by
  refine fn_of (rs := [.cell 0 27, .tmp 1]) (env [(16, S16), (25, S25), (18, S18), (8, S8)] ⟨fn16, fn25, fn18, fn8, trivial⟩) Try.func12 (by kernel_rfl) rfl rfl Try.ntmps12 ?_
  rintro u _ G hG hQ
  refine AM.run2 hG 200 (by cbv) ?_ ?_
  · (simp only [sxs, sxb, and_self, and_true, true_and, implies_true, imp_self, bne_eq_false_iff_eq, Nat.zero_add, Nat.le_refl, Int.toNat_natCast, Int.ofNat_lt, Int.natCast_nonneg, decide_eq_true_eq, decide_eq_false_iff_not, bne_iff_ne, ne_eq]; try dsimp only [Kd.T, Kds.T, AK.T, AKs.T])
    all_goals ((repeat' first | apply And.intro | intro _) <;> first | decide | kernel_rfl)
  refine AM.ret2 hG (by cbv) (by (simp only [sxs, sxb, and_self, and_true, true_and, implies_true, imp_self, bne_eq_false_iff_eq, Nat.zero_add, Nat.le_refl, Int.toNat_natCast, Int.ofNat_lt, Int.natCast_nonneg, decide_eq_true_eq, decide_eq_false_iff_not, bne_iff_ne, ne_eq]; try dsimp only [Kd.T, Kds.T, AK.T, AKs.T])) (hQ _ _ (FinRo.of (by cbv) (by cbv) ?_ ?_))
  · (simp only [sxs, sxb, and_self, and_true, true_and, implies_true, imp_self, bne_eq_false_iff_eq, Nat.zero_add, Nat.le_refl, Int.toNat_natCast, Int.ofNat_lt, Int.natCast_nonneg, decide_eq_true_eq, decide_eq_false_iff_not, bne_iff_ne, ne_eq]; try dsimp only [Kd.T, Kds.T, AK.T, AKs.T])
  try (simp only [sxs, sxb, and_self, and_true, true_and, implies_true, imp_self, bne_eq_false_iff_eq, Nat.zero_add, Nat.le_refl, Int.toNat_natCast, Int.ofNat_lt, Int.natCast_nonneg, decide_eq_true_eq, decide_eq_false_iff_not, bne_iff_ne, ne_eq]; try dsimp only [Kd.T, Kds.T, AK.T, AKs.T])
  (repeat' apply And.intro) <;> kernel_rfl
def S14 : List AV → Option FOut := sigSpec [] [RingK, .bool] (fun x : Unit => (afterP, true, ())) (fun _ => True)
set_option maxHeartbeats 4000000 in
theorem fn14 : FnOk Try.prog 14 S14 := by
  refine fn_of (rs := [.cell 0 27, .tmp 1]) (env [(12, S12), (11, S11), (6, S6), (18, S18), (8, S8)] ⟨fn12, fn11, fn6, fn18, fn8, trivial⟩) Try.func14 (by kernel_rfl) rfl rfl Try.ntmps14 ?_
  rintro u _ G hG hQ
  refine AM.run2 hG 200 (by cbv) ?_ ?_
  · (simp only [sxs, sxb, and_self, and_true, true_and, implies_true, imp_self, bne_eq_false_iff_eq, Nat.zero_add, Nat.le_refl, Int.toNat_natCast, Int.ofNat_lt, Int.natCast_nonneg, decide_eq_true_eq, decide_eq_false_iff_not, bne_iff_ne, ne_eq]; try dsimp only [Kd.T, Kds.T, AK.T, AKs.T])
    all_goals ((repeat' first | apply And.intro | intro _) <;> first | decide | kernel_rfl)
  refine AM.ret2 hG (by cbv) (by (simp only [sxs, sxb, and_self, and_true, true_and, implies_true, imp_self, bne_eq_false_iff_eq, Nat.zero_add, Nat.le_refl, Int.toNat_natCast, Int.ofNat_lt, Int.natCast_nonneg, decide_eq_true_eq, decide_eq_false_iff_not, bne_iff_ne, ne_eq]; try dsimp only [Kd.T, Kds.T, AK.T, AKs.T])) (hQ _ _ (FinRo.of (by cbv) (by cbv) ?_ ?_))
  · (simp only [sxs, sxb, and_self, and_true, true_and, implies_true, imp_self, bne_eq_false_iff_eq, Nat.zero_add, Nat.le_refl, Int.toNat_natCast, Int.ofNat_lt, Int.natCast_nonneg, decide_eq_true_eq, decide_eq_false_iff_not, bne_iff_ne, ne_eq]; try dsimp only [Kd.T, Kds.T, AK.T, AKs.T])
  try (simp only [sxs, sxb, and_self, and_true, true_and, implies_true, imp_self, bne_eq_false_iff_eq, Nat.zero_add, Nat.le_refl, Int.toNat_natCast, Int.ofNat_lt, Int.natCast_nonneg, decide_eq_true_eq, decide_eq_false_iff_not, bne_iff_ne, ne_eq]; try dsimp only [Kd.T, Kds.T, AK.T, AKs.T])
  (repeat' apply And.intro) <;> kernel_rfl
def S19 : List AV → Option FOut := sigSpec [] [.bool] (fun x : Unit => (true, ())) (fun _ => True)
set_option maxHeartbeats 4000000 in
theorem fn19 : FnOk Try.prog 19 S19 := by
  refine fn_of (rs := [.tmp 0]) (env [(14, S14), (15, S15), (7, S7), (20, S20), (18, S18), (8, S8)] ⟨fn14, fn15, fn7, fn20, fn18, fn8, trivial⟩) Try.func19 (by kernel_rfl) rfl rfl Try.ntmps19 ?_
  rintro u _ G hG hQ
  refine AM.run2 hG 200 (by cbv) ?_ ?_
  · (simp only [sxs, sxb, and_self, and_true, true_and, implies_true, imp_self, bne_eq_false_iff_eq, Nat.zero_add, Nat.le_refl, Int.toNat_natCast, Int.ofNat_lt, Int.natCast_nonneg, decide_eq_true_eq, decide_eq_false_iff_not, bne_iff_ne, ne_eq]; try dsimp only [Kd.T, Kds.T, AK.T, AKs.T])
    all_goals ((repeat' first | apply And.intro | intro _) <;> first | decide | kernel_rfl)
  refine AM.ret2 hG (by cbv) (by (simp only [sxs, sxb, and_self, and_true, true_and, implies_true, imp_self, bne_eq_false_iff_eq, Nat.zero_add, Nat.le_refl, Int.toNat_natCast, Int.ofNat_lt, Int.natCast_nonneg, decide_eq_true_eq, decide_eq_false_iff_not, bne_iff_ne, ne_eq]; try dsimp only [Kd.T, Kds.T, AK.T, AKs.T])) (hQ _ _ (FinRo.of (by cbv) (by cbv) ?_ ?_))
  · (simp only [sxs, sxb, and_self, and_true, true_and, implies_true, imp_self, bne_eq_false_iff_eq, Nat.zero_add, Nat.le_refl, Int.toNat_natCast, Int.ofNat_lt, Int.natCast_nonneg, decide_eq_true_eq, decide_eq_false_iff_not, bne_iff_ne, ne_eq]; try dsimp only [Kd.T, Kds.T, AK.T, AKs.T])
  exact ⟨by kernel_rfl⟩
end Go.Sx.Ytfnjijnaogbgmaa

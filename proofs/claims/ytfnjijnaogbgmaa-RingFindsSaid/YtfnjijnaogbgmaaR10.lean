/- Rings: what is found; two regions of the law RingFinds. -/
import Derived.Test.YtfnjijnaogbgmaaR9
import Derived.Test.YtfnjijnaogbgmaaSx37
namespace Go.Sx.Ytfnjijnaogbgmaa
open Go Go.Sx Go.Proofs
set_option linter.unusedVariables false
set_option linter.unusedSimpArgs false
set_option maxRecDepth 100000

theorem RingV.low {r : Ring} (h : RingV r) {i : Nat} (hi : i < r.2.2.1.length) : lowI r.2.2.1 (r.2.2.1.getD i zH).1 = i ∧ hitB r.2.2.1 (r.2.2.1.getD i zH).1 = true := by
  have hl : lowI r.2.2.1 (r.2.2.1.getD i zH).1 = i := low_is (by omega) (fun k hk => asc_of h.ok.step k i hk hi) (fun _ => Int.lt_irrefl _)
  refine ⟨hl, ?_⟩
  rw [hitB, hl, Bool.and_eq_true, decide_eq_true_eq, eqI_t]
  exact ⟨hi, rfl⟩
theorem RingV.find {r : Ring} (h : RingV r) {i : Nat} (hi : i < r.2.2.1.length) : findR r (r.2.2.1.getD i zH).1 = (nI i, 0) := by
  obtain ⟨h1, h2⟩ := h.low hi
  rw [findR, if_neg (by rw [h.check]; decide), if_pos h2, h1]
theorem RingV.findNo {r : Ring} (h : RingV r) {x : Int} (hx : ∀ y ∈ r.2.2.1, ¬ y.1 = x) : findR r x = (0, 6) := by
  rw [findR, if_neg (by rw [h.check]; decide), if_neg]
  intro q
  rw [hitB, Bool.and_eq_true, decide_eq_true_eq, eqI_t] at q
  exact hx _ (getH_mem q.1) q.2
theorem RingV.age {r : Ring} (h : RingV r) {i : Nat} (hi : i < r.2.2.1.length) : ageR r (r.2.2.1.getD i zH).1 = (r.2.1 - 1 - (r.2.2.1.getD i zH).1, 0) := by
  have h1 := h.next
  have h2 := h.nums _ (getH_mem hi)
  have e1 : IntKind.u64.wrap (r.2.1 - 1) = r.2.1 - 1 := by
    show (r.2.1 - 1) % 18446744073709551616 = _
    omega
  have e2 : IntKind.u64.wrap (r.2.1 - 1 - (r.2.2.1.getD i zH).1) = r.2.1 - 1 - (r.2.2.1.getD i zH).1 := by
    show (r.2.1 - 1 - (r.2.2.1.getD i zH).1) % 18446744073709551616 = _
    omega
  rw [ageR, if_neg (by rw [h.find hi]; simp), e1, e2]
theorem RingV.drop {r : Ring} (h : RingV r) {i : Nat} (hi : i < r.2.2.1.length) : dropR r (r.2.2.1.getD i zH).1 = ((r.1, r.2.1, r.2.2.1.take i ++ r.2.2.1.drop (i + 1), ()), r.2.2.1.getD i zH, 0) := by
  rw [dropR, if_neg (by rw [h.find hi]; simp), (h.low hi).1]
theorem RingV.gone {r : Ring} (h : RingV r) {i : Nat} (hi : i < r.2.2.1.length) : findR (r.1, r.2.1, r.2.2.1.take i ++ r.2.2.1.drop (i + 1), ()) (r.2.2.1.getD i zH).1 = (0, 6) := by
  refine (h.sub (cut_sub _ _)).findNo ?_
  intro y hy q
  simp only at hy
  rw [getH hi] at q
  rcases List.mem_append.1 hy with hy | hy
  · obtain ⟨j, hj, rfl⟩ := List.getElem_of_mem hy
    rw [List.length_take] at hj
    rw [List.getElem_take] at q
    have := List.pairwise_iff_getElem.1 h.asc j i (by omega) hi (by omega)
    omega
  · obtain ⟨j, hj, rfl⟩ := List.getElem_of_mem hy
    rw [List.length_drop] at hj
    rw [List.getElem_drop] at q
    have := List.pairwise_iff_getElem.1 h.asc i (i + 1 + j) hi (by omega) (by omega)
    omega
/-- A region's operations. -/
def rgs (n : Nat) : Code → Option (Array Oper)
  | .region id ops _ => if id = n then some ops else none
  | .seq a b => (match rgs n a with | some x => some x | none => rgs n b)
  | .cond _ a b => (match rgs n a with | some x => some x | none => rgs n b)
  | .block _ b => rgs n b
  | .loop b => rgs n b
  | _ => none
def opsOf (f : Func) (n : Nat) : Array Oper :=
  match f.body with
  | some b => (match rgs n b with | some x => x | none => #[])
  | none => #[]
set_option maxHeartbeats 4000000 in
theorem reg9 {G : Gl} (hG : GOk Try.prog G (E [(4, S4), (5, S5), (6, S6), (7, S7), (8, S8), (9, S9), (10, S10), (11, S11)]) [.tmp 8]) {k : List It} {rc rn what which : Int} {rl sl : List Held} (hr : rl.length ≤ 1000) (hsl : sl.length = rl.length + 1) (hlast : sl.getD rl.length zH = (rn, what, ())) (htake : sl.take rl.length = rl)
    (h1 : AM G ⟨frame 208 [(2, .int .i64 (.t fun _ => what)), (3, .int .i64 (.t fun _ => which)), (9, .bool (.l true)), (10, .ptr 0 0), (13, .ptr 1 0), (105, .bool (.l false))], [.box 27 [.int .i64 (.t fun _ => rc), .int .u64 (.t fun _ => rn), .ro HeldK fun _ => rl], .box 27 [.int .i64 (.t fun _ => rc), .int .u64 (.t fun _ => rn + 1), .ro HeldK fun _ => sl]], k⟩) : AM G ⟨frame 208 [(2, .int .i64 (.t fun _ => what)), (3, .int .i64 (.t fun _ => which)), (9, .bool (.l true)), (10, .ptr 0 0), (13, .ptr 1 0), (14, .int .u64 (.t fun _ => rn)), (15, .int .i64 (.l 0)), (16, .int .i64 (.t fun _ => nI rl.length)), (17, .int .i64 (.l 0))], [.box 27 [.int .i64 (.t fun _ => rc), .int .u64 (.t fun _ => rn), .ro HeldK fun _ => rl], .box 27 [.int .i64 (.t fun _ => rc), .int .u64 (.t fun _ => rn + 1), .ro HeldK fun _ => sl]], .code (.region 9 (opsOf Try.f3 9) true) :: k⟩ := by
  have hw1 : IntKind.i64.wrap ((rl.length : Int) + 1) = (sl.length : Int) := by rw [w64 (by omega) (by omega)]; omega
  refine AM.drawP hG [(73, false), (83, false), (93, false), (104, false)] (by cbv) (by kernel_rfl) ?_ ?_
  · (simp only [sxs, sxb, and_self, and_true, true_and, implies_true, imp_self, bne_eq_false_iff_eq, Nat.zero_add, Nat.le_refl, Int.toNat_natCast, Int.ofNat_lt, Int.natCast_nonneg, decide_eq_true_eq, decide_eq_false_iff_not, bne_iff_ne, ne_eq]; try dsimp only [Kd.T, Kds.T, AK.T, AKs.T])
    refine ⟨hw1.symm, ⟨by decide, by omega⟩, ⟨by rw [List.length_drop, List.length_take]; omega, by omega⟩, htake, by omega, by omega, ?_⟩
    show eqK HeldK (sl.getD rl.length zH) (rn, what, ()) = true
    rw [hlast, eqK_held, decide_eq_true_eq]
  refine AM.imp2 (by cbv) (by cbv) ?_ ?_ h1
  · (simp only [sxs, sxb, and_self, and_true, true_and, implies_true, imp_self, bne_eq_false_iff_eq, Nat.zero_add, Nat.le_refl, Int.toNat_natCast, Int.ofNat_lt, Int.natCast_nonneg, decide_eq_true_eq, decide_eq_false_iff_not, bne_iff_ne, ne_eq]; try dsimp only [Kd.T, Kds.T, AK.T, AKs.T])
  · (simp only [sxs, sxb, and_self, and_true, true_and, implies_true, imp_self, bne_eq_false_iff_eq, Nat.zero_add, Nat.le_refl, Int.toNat_natCast, Int.ofNat_lt, Int.natCast_nonneg, decide_eq_true_eq, decide_eq_false_iff_not, bne_iff_ne, ne_eq]; try dsimp only [Kd.T, Kds.T, AK.T, AKs.T])
set_option maxHeartbeats 4000000 in
theorem reg19 {G : Gl} (hG : GOk Try.prog G (E [(4, S4), (5, S5), (6, S6), (7, S7), (8, S8), (9, S9), (10, S10), (11, S11)]) [.tmp 8]) {it : List It} {rc rn y w : Int} {rl sl tl : List Held} {k : Nat} (hl : sl.length ≤ 1000) (hks : k < sl.length) (hy : sl.getD k zH = (y, w, ())) (qtl : sl.take k ++ sl.drop (k + 1) = tl) (htl : tl.length ≤ 1000)
    (h1 : AM G ⟨frame 208 [(8, .bool (.l true))], [.dead, .dead, .dead, .dead, .dead, .dead, .dead], it⟩) : AM G ⟨frame 208 [(9, .bool (.l true)), (13, .ptr 1 0), (18, .int .i64 (.t fun _ => nI k)), (20, .int .i64 (.l 0)), (23, .ptr 2 0), (24, .ptr 3 0), (25, .int .i64 (.l 0)), (27, .int .i64 (.l 6))], [.box 27 [.int .i64 (.t fun _ => rc), .int .u64 (.t fun _ => rn), .ro HeldK fun _ => rl], .box 27 [.int .i64 (.t fun _ => rc), .int .u64 (.t fun _ => rn + 1), .ro HeldK fun _ => sl], .box 27 [.int .i64 (.t fun _ => rc), .int .u64 (.t fun _ => rn + 1), .ro HeldK fun _ => tl], .box 38 [.int .u64 (.t fun _ => y), .int .i64 (.t fun _ => w)]], .code (.region 19 (opsOf Try.f3 19) true) :: it⟩ := by
  have hw2 : IntKind.i64.wrap ((k : Int) + 1) = ((k + 1 : Nat) : Int) := w64s (by omega)
  have hlA : (List.drop (Int.toNat 0) (List.take k sl)).length = k := by
    rw [List.length_drop, List.length_take, Int.toNat_zero]
    omega
  have hlB : (List.drop (k + 1) (List.take sl.length sl)).length = sl.length - (k + 1) := by
    rw [List.take_length, List.length_drop]
  refine AM.drawP hG [(185, true)] (by cbv) (by kernel_rfl) ?_ ?_
  · (simp only [sxs, sxb, and_self, and_true, true_and, implies_true, imp_self, bne_eq_false_iff_eq, Nat.zero_add, Nat.le_refl, Int.toNat_natCast, Int.ofNat_lt, Int.natCast_nonneg, decide_eq_true_eq, decide_eq_false_iff_not, bne_iff_ne, ne_eq]; try dsimp only [Kd.T, Kds.T, AK.T, AKs.T])
    simp only [hw2, Int.toNat_natCast, hlA, hlB]
    have hey : eqK HeldK (y, w, ()) (sl.getD k zH) = true := by rw [hy, eqK_held, decide_eq_true_eq]
    simp only [maxLen]
    refine ⟨hks, hks, hey, ⟨by decide, by omega⟩, ⟨by omega, by omega⟩, ⟨by omega, by omega, Int.le_refl _⟩, ⟨by omega, by omega⟩, ⟨by omega, ?_⟩, ?_⟩
    · rw [List.length_take, List.length_append, hlA, hlB]
      omega
    · rw [List.length_append, hlA, hlB]
      omega
  refine AM.imp2 (by cbv) (by cbv) ?_ ?_ h1
  · (simp only [sxs, sxb, and_self, and_true, true_and, implies_true, imp_self, bne_eq_false_iff_eq, Nat.zero_add, Nat.le_refl, Int.toNat_natCast, Int.ofNat_lt, Int.natCast_nonneg, decide_eq_true_eq, decide_eq_false_iff_not, bne_iff_ne, ne_eq]; try dsimp only [Kd.T, Kds.T, AK.T, AKs.T])
    rw [hw2, Int.toNat_natCast, List.take_of_length_le (by rw [List.length_append]; exact Nat.le_refl _), List.take_length]
    exact qtl.symm
  · (simp only [sxs, sxb, and_self, and_true, true_and, implies_true, imp_self, bne_eq_false_iff_eq, Nat.zero_add, Nat.le_refl, Int.toNat_natCast, Int.ofNat_lt, Int.natCast_nonneg, decide_eq_true_eq, decide_eq_false_iff_not, bne_iff_ne, ne_eq]; try dsimp only [Kd.T, Kds.T, AK.T, AKs.T])
end Go.Sx.Ytfnjijnaogbgmaa

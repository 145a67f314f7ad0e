/- Choices: Order of the program. -/
import Derived.Test.YtaijdhocmjnopaaT8
import Derived.Test.YtaijdhocmjnopaaP9
namespace Go.Sx.Ytaijdhocmjnopaa
open Go Go.Sx Go.Proofs
set_option linter.unusedVariables false
set_option linter.unusedSimpArgs false
set_option maxRecDepth 100000

def cAtF (f : Unit → Call) : List AV := [.int .i64 (.t fun _ => (f ()).1), .int .i64 (.t fun _ => (f ()).2.1), .int .i64 (.t fun _ => (f ()).2.2.1), .int .i64 (.t fun _ => (f ()).2.2.2.1)]
def orderGo (a : Ask) : Nat → List Call → List Call
  | 0, _ => []
  | n + 1, l => if (byS l a).2 = true then (byS l a).1 :: orderGo a n (l.filter fun x => !sameB x (byS l a).1) else []
def orderR (t : Table) (a : Ask) : List Call × Int := if asksE t a ≠ 0 then ([], asksE t a) else (orderGo a t.2.1.length t.2.1, 0)
theorem firstOf_mem {p : Call → Bool} : ∀ {l : List Call}, (firstOf p l).2 = true → (firstOf p l).1 ∈ l ∧ p (firstOf p l).1 = true
  | [], h => by simp [firstOf] at h
  | c :: cs, h => by
    rw [firstOf] at h ⊢
    split
    · rename_i hp; exact ⟨by simp, hp⟩
    · rename_i hp
      rw [if_neg hp] at h
      obtain ⟨h1, h2⟩ := firstOf_mem h
      exact ⟨List.mem_cons_of_mem _ h1, h2⟩
theorem hallS_mem {l : List Call} {now cy : Int} {g : List Call} (h : (hallS l now cy g).2 = true) : (hallS l now cy g).1 ∈ l := by
  rw [hallS] at h ⊢
  split
  · rename_i hh; exact (firstOf_mem hh).1
  · rename_i hh; rw [if_neg hh] at h; exact (firstOf_mem h).1
theorem byS_mem {l : List Call} {a : Ask} (h : (byS l a).2 = true) : (byS l a).1 ∈ l := by
  rw [byS] at h ⊢
  split
  · rename_i h1; rw [if_pos h1] at h; exact (firstOf_mem h).1
  · rename_i h1
    rw [if_neg h1] at h
    split
    · rename_i h2; rw [if_pos h2] at h; cases h
    · rename_i h2
      rw [if_neg h2] at h
      split
      · rename_i h3; rw [if_pos h3] at h; exact hallS_mem h
      · rename_i h3
        have h4 : (ownS l a.1).2 = true := by
          cases hh : (ownS l a.1).2
          · exact absurd (.inr hh) h3
          · rfl
        exact (firstOf_mem h4).1
theorem filter_less {l : List Call} {c : Call} (h : c ∈ l) : (l.filter fun x => !sameB x c).length < l.length := by
  have : (l.filter fun x => !sameB x c).length ≠ l.length := by
    intro e
    have := List.length_filter_eq_length_iff.1 e c h
    simp [sameB] at this
  have := List.length_filter_le (fun x => !sameB x c) l
  omega
theorem orderGo_nil (a : Ask) (n : Nat) {l : List Call} (h : (byS l a).2 = false) : orderGo a n l = [] := by
  cases n with
  | zero => rfl
  | succ n => rw [orderGo, if_neg (by rw [h]; decide)]
theorem orderGo_step (a : Ask) {n : Nat} {l : List Call} (hn : l.length ≤ n) (h : (byS l a).2 = true) : orderGo a n l = (byS l a).1 :: orderGo a (n - 1) (l.filter fun x => !sameB x (byS l a).1) := by
  cases n with
  | zero =>
    have := byS_mem h
    cases l with
    | nil => simp at this
    | cons c l => simp at hn
  | succ n => rw [orderGo, if_pos h, Nat.add_sub_cancel]

def S86o : List AV → Option FOut := ownSpec (decArgs [CallsK]) (fun y => .sl 0 4 (.l 0) (.t fun _ => (y ()).1.length)) (fun y => [.row 38 CallK fun _ => (y ()).1]) (fun x : List Call × Unit => x.1.length ≤ 1000000)
theorem fn86o : FnOk Try.prog 86 S86o := by
  refine fn_ofO (rs := [.tmp 2]) (env [] trivial) Try.func86 (by kernel_rfl) rfl rfl Try.ntmps86 (enc := encArgs [CallsK]) (dec := decArgs [CallsK]) encArgs_ok (encArgs_len [CallsK]) ?_
  rintro ⟨(l : List Call), u⟩ hl G hG hB hQ
  simp only at hl
  refine AM.run2 hG 100 (by cbv) (by (simp only [sxs, sxb, and_self, and_true, true_and, implies_true, imp_self, bne_eq_false_iff_eq, Nat.zero_add, Nat.le_refl, Int.toNat_natCast, Int.ofNat_lt, Int.natCast_nonneg, decide_eq_true_eq, decide_eq_false_iff_not, bne_iff_ne, ne_eq]; try dsimp only [Kd.T, Kds.T, AK.T, AKs.T])) ?_
  refine AM.nilRo hG rfl rfl rfl rfl rfl fun b hb => ?_
  cases b
  · refine AM.run2 hG 100 (by cbv) ?_ ?_
    · (simp only [sxs, sxb, and_self, and_true, true_and, implies_true, imp_self, bne_eq_false_iff_eq, Nat.zero_add, Nat.le_refl, Int.toNat_natCast, Int.ofNat_lt, Int.natCast_nonneg, decide_eq_true_eq, decide_eq_false_iff_not, bne_iff_ne, ne_eq]; try dsimp only [Kd.T, Kds.T, AK.T, AKs.T])
      simp only [maxLen]; omega
    refine AM.ret2 hG (by cbv) (by (simp only [sxs, sxb, and_self, and_true, true_and, implies_true, imp_self, bne_eq_false_iff_eq, Nat.zero_add, Nat.le_refl, Int.toNat_natCast, Int.ofNat_lt, Int.natCast_nonneg, decide_eq_true_eq, decide_eq_false_iff_not, bne_iff_ne, ne_eq]; try dsimp only [Kd.T, Kds.T, AK.T, AKs.T])) (hQ _ _ (FinOwn.mk' [1] (by cbv) (by cbv) (by cbv) ?_ ?_))
    · (simp only [sxs, sxb, and_self, and_true, true_and, implies_true, imp_self, bne_eq_false_iff_eq, Nat.zero_add, Nat.le_refl, Int.toNat_natCast, Int.ofNat_lt, Int.natCast_nonneg, decide_eq_true_eq, decide_eq_false_iff_not, bne_iff_ne, ne_eq]; try dsimp only [Kd.T, Kds.T, AK.T, AKs.T])
    · (simp only [sxs, sxb, and_self, and_true, true_and, implies_true, imp_self, bne_eq_false_iff_eq, Nat.zero_add, Nat.le_refl, Int.toNat_natCast, Int.ofNat_lt, Int.natCast_nonneg, decide_eq_true_eq, decide_eq_false_iff_not, bne_iff_ne, ne_eq]; try dsimp only [Kd.T, Kds.T, AK.T, AKs.T])
  · obtain rfl : l = [] := hb rfl
    refine AM.run2 hG 100 (by cbv) (by (simp only [sxs, sxb, and_self, and_true, true_and, implies_true, imp_self, bne_eq_false_iff_eq, Nat.zero_add, Nat.le_refl, Int.toNat_natCast, Int.ofNat_lt, Int.natCast_nonneg, decide_eq_true_eq, decide_eq_false_iff_not, bne_iff_ne, ne_eq]; try dsimp only [Kd.T, Kds.T, AK.T, AKs.T])) ?_
    refine AM.emptySlot 2 38 CallK rfl ?_
    refine AM.ret2 hG (by cbv) (by (simp only [sxs, sxb, and_self, and_true, true_and, implies_true, imp_self, bne_eq_false_iff_eq, Nat.zero_add, Nat.le_refl, Int.toNat_natCast, Int.ofNat_lt, Int.natCast_nonneg, decide_eq_true_eq, decide_eq_false_iff_not, bne_iff_ne, ne_eq]; try dsimp only [Kd.T, Kds.T, AK.T, AKs.T])) (hQ _ _ (FinOwn.mk' [0] (by cbv) (by cbv) (by cbv) ?_ ?_))
    · (simp only [sxs, sxb, and_self, and_true, true_and, implies_true, imp_self, bne_eq_false_iff_eq, Nat.zero_add, Nat.le_refl, Int.toNat_natCast, Int.ofNat_lt, Int.natCast_nonneg, decide_eq_true_eq, decide_eq_false_iff_not, bne_iff_ne, ne_eq]; try dsimp only [Kd.T, Kds.T, AK.T, AKs.T])
    · (simp only [sxs, sxb, and_self, and_true, true_and, implies_true, imp_self, bne_eq_false_iff_eq, Nat.zero_add, Nat.le_refl, Int.toNat_natCast, Int.ofNat_lt, Int.natCast_nonneg, decide_eq_true_eq, decide_eq_false_iff_not, bne_iff_ne, ne_eq]; try dsimp only [Kd.T, Kds.T, AK.T, AKs.T])
end Go.Sx.Ytaijdhocmjnopaa

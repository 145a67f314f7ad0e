/- Choices: Order of the program. -/
import Derived.Test.YteiehkafkcggeaaT8
import Derived.Test.YteiehkafkcggeaaP9
namespace Go.Sx.Yteiehkafkcggeaa
open Go Go.Sx Go.Proofs
set_option linter.unusedVariables false
set_option linter.unusedSimpArgs false
set_option maxRecDepth 100000

def cAtF (f : Unit → Call) : List AV := [.int .i64 (.t fun _ => (f ()).1), .int .i64 (.t fun _ => (f ()).2.1), .int .i64 (.t fun _ => (f ()).2.2.1), .int .i64 (.t fun _ => (f ()).2.2.2.1)]
def orderGo (a : Ask) : Nat → List Call → List Call
  | 0, _ => []
  | n + 1, l => if (byS l a).2 = true then (byS l a).1 :: orderGo a n (l.filter fun x => !sameB x (byS l a).1) else []
def orderR (t : Table) (a : Ask) : List Call × Int := if asksE t a ≠ 0 then ([], asksE t a) else (orderGo a t.2.1.length t.2.1, 0)
theorem firstOf_mem {p : Call → Bool} : ∀ {l : List Call}, (firstOf p l).2 = true → (firstOf p l).1 ∈ l ∧ p (firstOf p l).1 = true
  | [], h => by simp [firstOf] at h
  | c :: cs, h => by
    rw [firstOf] at h ⊢
    split
    · rename_i hp; exact ⟨by simp, hp⟩
    · rename_i hp
      rw [if_neg hp] at h
      obtain ⟨h1, h2⟩ := firstOf_mem h
      exact ⟨List.mem_cons_of_mem _ h1, h2⟩
theorem hallS_mem {l : List Call} {now cy : Int} {g : List Call} (h : (hallS l now cy g).2 = true) : (hallS l now cy g).1 ∈ l := by
  rw [hallS] at h ⊢
  split
  · rename_i hh; exact (firstOf_mem hh).1
  · rename_i hh; rw [if_neg hh] at h; exact (firstOf_mem h).1
theorem byS_mem {l : List Call} {a : Ask} (h : (byS l a).2 = true) : (byS l a).1 ∈ l := by
  rw [byS] at h ⊢
  split
  · rename_i h1; rw [if_pos h1] at h; exact (firstOf_mem h).1
  · rename_i h1
    rw [if_neg h1] at h
    split
    · rename_i h2; rw [if_pos h2] at h; cases h
    · rename_i h2
      rw [if_neg h2] at h
      split
      · rename_i h3; rw [if_pos h3] at h; exact hallS_mem h
      · rename_i h3
        have h4 : (ownS l a.1).2 = true := by
          cases hh : (ownS l a.1).2
          · exact absurd (.inr hh) h3
          · rfl
        exact (firstOf_mem h4).1
theorem filter_less {l : List Call} {c : Call} (h : c ∈ l) : (l.filter fun x => !sameB x c).length < l.length := by
  have : (l.filter fun x => !sameB x c).length ≠ l.length := by
    intro e
    have := List.length_filter_eq_length_iff.1 e c h
    simp [sameB] at this
  have := List.length_filter_le (fun x => !sameB x c) l
  omega
theorem orderGo_nil (a : Ask) (n : Nat) {l : List Call} (h : (byS l a).2 = false) : orderGo a n l = [] := by
  cases n with
  | zero => rfl
  | succ n => rw [orderGo, if_neg (by rw [h]; decide)]
theorem orderGo_step (a : Ask) {n : Nat} {l : List Call} (hn : l.length ≤ n) (h : (byS l a).2 = true) : orderGo a n l = (byS l a).1 :: orderGo a (n - 1) (l.filter fun x => !sameB x (byS l a).1) := by
  cases n with
  | zero =>
    have := byS_mem h
    cases l with
    | nil => simp at this
    | cons c l => simp at hn
  | succ n => rw [orderGo, if_pos h, Nat.add_sub_cancel]

def S96o : List AV → Option FOut := ownSpec (decArgs [CallsK]) (fun y => .sl 0 4 (.l 0) (.t fun _ => (y ()).1.length)) (fun y => [.row 31 CallK fun _ => (y ()).1]) (fun x : List Call × Unit => x.1.length ≤ 1000000)
theorem fn96o : FnOk Try.prog 96 S96o := by
  refine fn_ofO (rs := [.tmp 2]) (env [] trivial) Try.func96 (by kernel_rfl) rfl rfl Try.ntmps96 (enc := encArgs [CallsK]) (dec := decArgs [CallsK]) encArgs_ok (encArgs_len [CallsK]) ?_
  rintro ⟨(l : List Call), u⟩ hl G hG hB hQ
  simp only at hl
  refine AM.run2 hG 100 (by cbv) (by (simp only [sxs, sxb, and_self, and_true, true_and, implies_true, imp_self, bne_eq_false_iff_eq, Nat.zero_add, Nat.le_refl, Int.toNat_natCast, Int.ofNat_lt, Int.natCast_nonneg, decide_eq_true_eq, decide_eq_false_iff_not, bne_iff_ne, ne_eq]; try dsimp only [Kd.T, Kds.T, AK.T, AKs.T])) ?_
  refine AM.nilRo hG rfl rfl rfl rfl rfl fun b hb => ?_
  cases b
  · refine AM.run2 hG 100 (by cbv) ?_ ?_
    · (simp only [sxs, sxb, and_self, and_true, true_and, implies_true, imp_self, bne_eq_false_iff_eq, Nat.zero_add, Nat.le_refl, Int.toNat_natCast, Int.ofNat_lt, Int.natCast_nonneg, decide_eq_true_eq, decide_eq_false_iff_not, bne_iff_ne, ne_eq]; try dsimp only [Kd.T, Kds.T, AK.T, AKs.T])
      simp only [maxLen]; omega
    refine AM.ret2 hG (by cbv) (by (simp only [sxs, sxb, and_self, and_true, true_and, implies_true, imp_self, bne_eq_false_iff_eq, Nat.zero_add, Nat.le_refl, Int.toNat_natCast, Int.ofNat_lt, Int.natCast_nonneg, decide_eq_true_eq, decide_eq_false_iff_not, bne_iff_ne, ne_eq]; try dsimp only [Kd.T, Kds.T, AK.T, AKs.T])) (hQ _ _ (FinOwn.mk' [1] (by cbv) (by cbv) (by cbv) ?_ ?_))
    · (simp only [sxs, sxb, and_self, and_true, true_and, implies_true, imp_self, bne_eq_false_iff_eq, Nat.zero_add, Nat.le_refl, Int.toNat_natCast, Int.ofNat_lt, Int.natCast_nonneg, decide_eq_true_eq, decide_eq_false_iff_not, bne_iff_ne, ne_eq]; try dsimp only [Kd.T, Kds.T, AK.T, AKs.T])
    · (simp only [sxs, sxb, and_self, and_true, true_and, implies_true, imp_self, bne_eq_false_iff_eq, Nat.zero_add, Nat.le_refl, Int.toNat_natCast, Int.ofNat_lt, Int.natCast_nonneg, decide_eq_true_eq, decide_eq_false_iff_not, bne_iff_ne, ne_eq]; try dsimp only [Kd.T, Kds.T, AK.T, AKs.T])
  · obtain rfl : l = [] := hb rfl
    refine AM.run2 hG 100 (by cbv) (by (simp only [sxs, sxb, and_self, and_true, true_and, implies_true, imp_self, bne_eq_false_iff_eq, Nat.zero_add, Nat.le_refl, Int.toNat_natCast, Int.ofNat_lt, Int.natCast_nonneg, decide_eq_true_eq, decide_eq_false_iff_not, bne_iff_ne, ne_eq]; try dsimp only [Kd.T, Kds.T, AK.T, AKs.T])) ?_
    refine AM.emptySlot 2 31 CallK rfl ?_
    refine AM.ret2 hG (by cbv) (by (simp only [sxs, sxb, and_self, and_true, true_and, implies_true, imp_self, bne_eq_false_iff_eq, Nat.zero_add, Nat.le_refl, Int.toNat_natCast, Int.ofNat_lt, Int.natCast_nonneg, decide_eq_true_eq, decide_eq_false_iff_not, bne_iff_ne, ne_eq]; try dsimp only [Kd.T, Kds.T, AK.T, AKs.T])) (hQ _ _ (FinOwn.mk' [0] (by cbv) (by cbv) (by cbv) ?_ ?_))
    · (simp only [sxs, sxb, and_self, and_true, true_and, implies_true, imp_self, bne_eq_false_iff_eq, Nat.zero_add, Nat.le_refl, Int.toNat_natCast, Int.ofNat_lt, Int.natCast_nonneg, decide_eq_true_eq, decide_eq_false_iff_not, bne_iff_ne, ne_eq]; try dsimp only [Kd.T, Kds.T, AK.T, AKs.T])
    · (simp only [sxs, sxb, and_self, and_true, true_and, implies_true, imp_self, bne_eq_false_iff_eq, Nat.zero_add, Nat.le_refl, Int.toNat_natCast, Int.ofNat_lt, Int.natCast_nonneg, decide_eq_true_eq, decide_eq_false_iff_not, bne_iff_ne, ne_eq]; try dsimp only [Kd.T, Kds.T, AK.T, AKs.T])
def S98 : List AV → Option FOut := akSpec [.v CallK, .r CallK] [.bool] (fun x : Call × Call × Unit => (sameB x.1 x.2.1, ())) (fun _ => True)
theorem fn98 : FnOk Try.prog 98 S98 := by
  refine fn_ofC (rs := [.tmp 3]) (env [(99, S99)] ⟨fn99, trivial⟩) Try.func98 (by kernel_rfl) rfl rfl Try.ntmps98 ?_
  rintro ⟨⟨(a : Int), (b : Int), (c : Int), (d : Int), u⟩, ⟨(a2 : Int), (b2 : Int), (c2 : Int), (d2 : Int), u2⟩, u3⟩ _ G hG hB hQ
  refine AM.run2 hG 100 (by cbv) ?_ ?_
  · (simp only [sxs, sxb, and_self, and_true, true_and, implies_true, imp_self, bne_eq_false_iff_eq, Nat.zero_add, Nat.le_refl, Int.toNat_natCast, Int.ofNat_lt, Int.natCast_nonneg, decide_eq_true_eq, decide_eq_false_iff_not, bne_iff_ne, ne_eq]; try dsimp only [Kd.T, Kds.T, AK.T, AKs.T])
  refine AM.ret2 hG (by cbv) (by (simp only [sxs, sxb, and_self, and_true, true_and, implies_true, imp_self, bne_eq_false_iff_eq, Nat.zero_add, Nat.le_refl, Int.toNat_natCast, Int.ofNat_lt, Int.natCast_nonneg, decide_eq_true_eq, decide_eq_false_iff_not, bne_iff_ne, ne_eq]; try dsimp only [Kd.T, Kds.T, AK.T, AKs.T])) (hQ _ _ (FinRo.of (by cbv) (by cbv) ?_ ?_))
  · (simp only [sxs, sxb, and_self, and_true, true_and, implies_true, imp_self, bne_eq_false_iff_eq, Nat.zero_add, Nat.le_refl, Int.toNat_natCast, Int.ofNat_lt, Int.natCast_nonneg, decide_eq_true_eq, decide_eq_false_iff_not, bne_iff_ne, ne_eq]; try dsimp only [Kd.T, Kds.T, AK.T, AKs.T])
  try (simp only [sxs, sxb, and_self, and_true, true_and, implies_true, imp_self, bne_eq_false_iff_eq, Nat.zero_add, Nat.le_refl, Int.toNat_natCast, Int.ofNat_lt, Int.natCast_nonneg, decide_eq_true_eq, decide_eq_false_iff_not, bne_iff_ne, ne_eq]; try dsimp only [Kd.T, Kds.T, AK.T, AKs.T])
  exact eqK_key (a, b, c, d, u) (a2, b2, c2, d2, u2)
def S135ord : List AV → Option FOut := akSpec [.v CallsK, .c 98 [.r CallK]] [I64] (fun x : List Call × (Call × Unit) × Unit => (idxOf (fun y => sameB y x.2.1.1) x.1, ())) (fun x : List Call × (Call × Unit) × Unit => x.1.length ≤ 1000000)
theorem fn135ord : FnOk Try.prog 135 S135ord := by
  refine fn_ofC (rs := [.tmp 4]) (env [(98, S98)] ⟨fn98, trivial⟩) Try.func135 (by kernel_rfl) rfl rfl Try.ntmps135 ?_
  rintro ⟨(l : List Call), ⟨⟨(ca : Int), (cb : Int), (cc : Int), (cd : Int), cu⟩, u⟩, u2⟩ hl G hG hB hQ
  simp only at hl
  refine AM.run2 hG 100 (by cbv) (by (simp only [sxs, sxb, and_self, and_true, true_and, implies_true, imp_self, bne_eq_false_iff_eq, Nat.zero_add, Nat.le_refl, Int.toNat_natCast, Int.ofNat_lt, Int.natCast_nonneg, decide_eq_true_eq, decide_eq_false_iff_not, bne_iff_ne, ne_eq]; try dsimp only [Kd.T, Kds.T, AK.T, AKs.T])) ?_
  refine AM.loopI (fun i : Nat => (frame 19 [(0, .ro CallK fun _ => l), (1, .fn (.func 98) [] [.fb (cAt (ca, cb, cc, cd, ())) 0]), (7, .int .i64 (.t fun _ => nI l.length)), (8, .int .i64 (.t fun _ => nI i))], [])) (fun i => i ≤ l.length ∧ ∀ j, j < i → sameB (l.getD j zc) (ca, cb, cc, cd, ()) = false) (fun i => l.length - i) 0 ⟨by simp, fun j h => by omega⟩ ?_ ?_ ?_
  · cbv; (simp only [sxs, sxb, and_self, and_true, true_and, implies_true, imp_self, bne_eq_false_iff_eq, Nat.zero_add, Nat.le_refl, Int.toNat_natCast, Int.ofNat_lt, Int.natCast_nonneg, decide_eq_true_eq, decide_eq_false_iff_not, bne_iff_ne, ne_eq]; try dsimp only [Kd.T, Kds.T, AK.T, AKs.T]); try rfl
  · cbv
  rintro i ⟨hi, hn⟩ ih
  refine AM.run2 hG 100 (by cbv) (by (simp only [sxs, sxb, and_self, and_true, true_and, implies_true, imp_self, bne_eq_false_iff_eq, Nat.zero_add, Nat.le_refl, Int.toNat_natCast, Int.ofNat_lt, Int.natCast_nonneg, decide_eq_true_eq, decide_eq_false_iff_not, bne_iff_ne, ne_eq]; try dsimp only [Kd.T, Kds.T, AK.T, AKs.T])) ?_
  refine AM.case 9 rfl (fun h => ?_) (fun h => ?_) <;> (simp only [sxs, sxb, and_self, and_true, true_and, implies_true, imp_self, bne_eq_false_iff_eq, Nat.zero_add, Nat.le_refl, Int.toNat_natCast, Int.ofNat_lt, Int.natCast_nonneg, decide_eq_true_eq, decide_eq_false_iff_not, bne_iff_ne, ne_eq] at h; try dsimp only [Kd.T, Kds.T, AK.T, AKs.T] at h)
  · refine AM.run2 hG 100 (by cbv) ?_ ?_
    · (simp only [sxs, sxb, and_self, and_true, true_and, implies_true, imp_self, bne_eq_false_iff_eq, Nat.zero_add, Nat.le_refl, Int.toNat_natCast, Int.ofNat_lt, Int.natCast_nonneg, decide_eq_true_eq, decide_eq_false_iff_not, bne_iff_ne, ne_eq]; try dsimp only [Kd.T, Kds.T, AK.T, AKs.T])
      exact h
    refine AM.case 16 rfl (fun h1 => ?_) (fun h1 => ?_)
    · replace h1 : sameB (l.getD i zc) (ca, cb, cc, cd, ()) = true := h1
      refine AM.run2 hG 100 (by cbv) (by (simp only [sxs, sxb, and_self, and_true, true_and, implies_true, imp_self, bne_eq_false_iff_eq, Nat.zero_add, Nat.le_refl, Int.toNat_natCast, Int.ofNat_lt, Int.natCast_nonneg, decide_eq_true_eq, decide_eq_false_iff_not, bne_iff_ne, ne_eq]; try dsimp only [Kd.T, Kds.T, AK.T, AKs.T])) ?_
      refine AM.ret2 hG (by cbv) (by (simp only [sxs, sxb, and_self, and_true, true_and, implies_true, imp_self, bne_eq_false_iff_eq, Nat.zero_add, Nat.le_refl, Int.toNat_natCast, Int.ofNat_lt, Int.natCast_nonneg, decide_eq_true_eq, decide_eq_false_iff_not, bne_iff_ne, ne_eq]; try dsimp only [Kd.T, Kds.T, AK.T, AKs.T])) (hQ _ _ (FinRo.of (by cbv) (by cbv) ?_ ?_))
      · (simp only [sxs, sxb, and_self, and_true, true_and, implies_true, imp_self, bne_eq_false_iff_eq, Nat.zero_add, Nat.le_refl, Int.toNat_natCast, Int.ofNat_lt, Int.natCast_nonneg, decide_eq_true_eq, decide_eq_false_iff_not, bne_iff_ne, ne_eq]; try dsimp only [Kd.T, Kds.T, AK.T, AKs.T])
      try (simp only [sxs, sxb, and_self, and_true, true_and, implies_true, imp_self, bne_eq_false_iff_eq, Nat.zero_add, Nat.le_refl, Int.toNat_natCast, Int.ofNat_lt, Int.natCast_nonneg, decide_eq_true_eq, decide_eq_false_iff_not, bne_iff_ne, ne_eq]; try dsimp only [Kd.T, Kds.T, AK.T, AKs.T])
      rw [idxOf_at (p := fun y => sameB y (ca, cb, cc, cd, ())) h hn h1]
    · replace h1 : sameB (l.getD i zc) (ca, cb, cc, cd, ()) = false := h1
      refine AM.run2 hG 100 (by cbv) (by (simp only [sxs, sxb, and_self, and_true, true_and, implies_true, imp_self, bne_eq_false_iff_eq, Nat.zero_add, Nat.le_refl, Int.toNat_natCast, Int.ofNat_lt, Int.natCast_nonneg, decide_eq_true_eq, decide_eq_false_iff_not, bne_iff_ne, ne_eq]; try dsimp only [Kd.T, Kds.T, AK.T, AKs.T])) ?_
      refine AM.imp2 (by cbv) (by cbv) ?_ (by (simp only [sxs, sxb, and_self, and_true, true_and, implies_true, imp_self, bne_eq_false_iff_eq, Nat.zero_add, Nat.le_refl, Int.toNat_natCast, Int.ofNat_lt, Int.natCast_nonneg, decide_eq_true_eq, decide_eq_false_iff_not, bne_iff_ne, ne_eq]; try dsimp only [Kd.T, Kds.T, AK.T, AKs.T])) (ih (i + 1) ⟨by omega, ?_⟩ (by omega))
      · (simp only [sxs, sxb, and_self, and_true, true_and, implies_true, imp_self, bne_eq_false_iff_eq, Nat.zero_add, Nat.le_refl, Int.toNat_natCast, Int.ofNat_lt, Int.natCast_nonneg, decide_eq_true_eq, decide_eq_false_iff_not, bne_iff_ne, ne_eq]; try dsimp only [Kd.T, Kds.T, AK.T, AKs.T]); rw [w64s (by omega)]
      · intro j hj
        by_cases e : j = i
        · rw [e]; exact h1
        · exact hn j (by omega)
  · refine AM.run2 hG 100 (by cbv) (by (simp only [sxs, sxb, and_self, and_true, true_and, implies_true, imp_self, bne_eq_false_iff_eq, Nat.zero_add, Nat.le_refl, Int.toNat_natCast, Int.ofNat_lt, Int.natCast_nonneg, decide_eq_true_eq, decide_eq_false_iff_not, bne_iff_ne, ne_eq]; try dsimp only [Kd.T, Kds.T, AK.T, AKs.T])) ?_
    refine AM.ret2 hG (by cbv) (by (simp only [sxs, sxb, and_self, and_true, true_and, implies_true, imp_self, bne_eq_false_iff_eq, Nat.zero_add, Nat.le_refl, Int.toNat_natCast, Int.ofNat_lt, Int.natCast_nonneg, decide_eq_true_eq, decide_eq_false_iff_not, bne_iff_ne, ne_eq]; try dsimp only [Kd.T, Kds.T, AK.T, AKs.T])) (hQ _ _ (FinRo.of (by cbv) (by cbv) ?_ ?_))
    · (simp only [sxs, sxb, and_self, and_true, true_and, implies_true, imp_self, bne_eq_false_iff_eq, Nat.zero_add, Nat.le_refl, Int.toNat_natCast, Int.ofNat_lt, Int.natCast_nonneg, decide_eq_true_eq, decide_eq_false_iff_not, bne_iff_ne, ne_eq]; try dsimp only [Kd.T, Kds.T, AK.T, AKs.T])
    try (simp only [sxs, sxb, and_self, and_true, true_and, implies_true, imp_self, bne_eq_false_iff_eq, Nat.zero_add, Nat.le_refl, Int.toNat_natCast, Int.ofNat_lt, Int.natCast_nonneg, decide_eq_true_eq, decide_eq_false_iff_not, bne_iff_ne, ne_eq]; try dsimp only [Kd.T, Kds.T, AK.T, AKs.T])
    rw [idxOf_none (p := fun y => sameB y (ca, cb, cc, cd, ())) fun j hj => hn j (by omega)]
def S33 : List AV → Option FOut := sigSpec [TableK, AskK] [CallsK, I64] (fun x : Table × Ask × Unit => ((orderR x.1 x.2.1).1, (orderR x.1 x.2.1).2, ())) (fun x : Table × Ask × Unit => x.1.2.1.length ≤ 1000000 ∧ (askL x.2.1).length ≤ 1000000)
theorem fn33 : FnOk Try.prog 33 S33 := by
  refine fn_ofB (rs := [.tmp 4, .tmp 5]) (env [(82, S82), (83, S83), (96, S96o), (135, S135ord), (98, S98)] ⟨fn82, fn83, fn96o, fn135ord, fn98, trivial⟩) Try.func33 (by kernel_rfl) rfl rfl Try.ntmps33 ?_
  rintro ⟨⟨(cap : Int), (l0 : List Call), u⟩, ⟨(a1 : Int), (a2 : Int), (a3 : Int), (a4 : Int), (a5 : Int), (a6 : Int), (a7 : Int), (a8 : Int), (a9 : Int), (gone : List Call), u1⟩, u3⟩ ⟨hl, hg⟩ G hG hB hQ
  obtain ⟨av, hav⟩ : ∃ av : Ask, av = (a1, a2, a3, a4, a5, a6, a7, a8, a9, gone, u1) := ⟨_, rfl⟩
  have hB := GB.of hB
  simp only at hl hg
  refine AM.run2 hG 100 (by cbv) ?_ ?_
  · (simp only [sxs, sxb, and_self, and_true, true_and, implies_true, imp_self, bne_eq_false_iff_eq, Nat.zero_add, Nat.le_refl, Int.toNat_natCast, Int.ofNat_lt, Int.natCast_nonneg, decide_eq_true_eq, decide_eq_false_iff_not, bne_iff_ne, ne_eq]; try dsimp only [Kd.T, Kds.T, AK.T, AKs.T])
  refine AM.case 15 rfl (fun h => ?_) (fun h => ?_) <;> (simp only [sxs, sxb, and_self, and_true, true_and, implies_true, imp_self, bne_eq_false_iff_eq, Nat.zero_add, Nat.le_refl, Int.toNat_natCast, Int.ofNat_lt, Int.natCast_nonneg, decide_eq_true_eq, decide_eq_false_iff_not, bne_iff_ne, ne_eq] at h; try dsimp only [Kd.T, Kds.T, AK.T, AKs.T] at h)
  · replace h : ¬ asksE (cap, l0, u) (a1, a2, a3, a4, a5, a6, a7, a8, a9, gone, u1) = 0 := h
    refine AM.run2 hG 100 (by cbv) (by (simp only [sxs, sxb, and_self, and_true, true_and, implies_true, imp_self, bne_eq_false_iff_eq, Nat.zero_add, Nat.le_refl, Int.toNat_natCast, Int.ofNat_lt, Int.natCast_nonneg, decide_eq_true_eq, decide_eq_false_iff_not, bne_iff_ne, ne_eq]; try dsimp only [Kd.T, Kds.T, AK.T, AKs.T])) ?_
    refine AM.ret2 hG (by cbv) (by (simp only [sxs, sxb, and_self, and_true, true_and, implies_true, imp_self, bne_eq_false_iff_eq, Nat.zero_add, Nat.le_refl, Int.toNat_natCast, Int.ofNat_lt, Int.natCast_nonneg, decide_eq_true_eq, decide_eq_false_iff_not, bne_iff_ne, ne_eq]; try dsimp only [Kd.T, Kds.T, AK.T, AKs.T])) (hQ _ _ (FinRo.of (by cbv) (by cbv) ?_ ?_))
    · (simp only [sxs, sxb, and_self, and_true, true_and, implies_true, imp_self, bne_eq_false_iff_eq, Nat.zero_add, Nat.le_refl, Int.toNat_natCast, Int.ofNat_lt, Int.natCast_nonneg, decide_eq_true_eq, decide_eq_false_iff_not, bne_iff_ne, ne_eq]; try dsimp only [Kd.T, Kds.T, AK.T, AKs.T])
    try (simp only [sxs, sxb, and_self, and_true, true_and, implies_true, imp_self, bne_eq_false_iff_eq, Nat.zero_add, Nat.le_refl, Int.toNat_natCast, Int.ofNat_lt, Int.natCast_nonneg, decide_eq_true_eq, decide_eq_false_iff_not, bne_iff_ne, ne_eq]; try dsimp only [Kd.T, Kds.T, AK.T, AKs.T])
    rw [orderR, if_pos h]
    all_goals ((repeat' apply And.intro) <;> first | rfl | assumption | exact trivial)
  replace h : asksE (cap, l0, u) (a1, a2, a3, a4, a5, a6, a7, a8, a9, gone, u1) = 0 := h
  have hr := (asks_ok h).2.1.2.2.1.1
  simp only at hr
  have hs : orderR (cap, l0, u) av = (orderGo av l0.length l0, 0) := by rw [orderR, hav, if_neg (by simpa using h)]
  obtain ⟨cv, hcv⟩ : ∃ cv : Call × Bool, byS l0 av = cv := ⟨_, rfl⟩
  refine AM.run2 hG 100 (by cbv) ?_ ?_
  · (simp only [sxs, sxb, and_self, and_true, true_and, implies_true, imp_self, bne_eq_false_iff_eq, Nat.zero_add, Nat.le_refl, Int.toNat_natCast, Int.ofNat_lt, Int.natCast_nonneg, decide_eq_true_eq, decide_eq_false_iff_not, bne_iff_ne, ne_eq]; try dsimp only [Kd.T, Kds.T, AK.T, AKs.T])
    rw [List.take_length]
    exact ⟨⟨⟨hl, hg⟩, hr⟩, hl⟩
  refine AM.emptySlot 8 31 CallK rfl ?_
  refine AM.loopI (fun x : List Call × List Call × List Call × Nat => (frame 47 [(2, .ptr 0 0), (3, .ptr 1 0), (7, .ptr 3 0), (8, .sl 5 4 (.l 0) (.t fun _ => x.2.2.1.length)), (9, .ptr 4 0), (10, .bool (.t fun _ => (byS x.1 av).2))],
    [.box 25 [.int .i64 (.t fun _ => cap), .ro CallK fun _ => l0], .box 27 [.int .i64 (.t fun _ => a1), .int .i64 (.t fun _ => a2), .int .i64 (.t fun _ => a3), .int .i64 (.t fun _ => a4), .int .i64 (.t fun _ => a5), .int .i64 (.t fun _ => a6), .int .i64 (.t fun _ => a7), .int .i64 (.t fun _ => a8), .int .i64 (.t fun _ => a9), .ro CallK fun _ => gone],
     .row 31 CallK (fun _ => x.2.1), .box 25 [.int .i64 (.t fun _ => cap), .sl 2 4 (.l 0) (.t fun _ => x.1.length)], .box 31 (cAtF fun _ => (byS x.1 av).1), .row 31 CallK (fun _ => x.2.2.1)]))
    (fun x => (∃ k, x.2.1 = x.1 ++ List.replicate k zc) ∧ x.2.1.length = l0.length ∧ x.1.length ≤ x.2.2.2 ∧ x.2.2.1.length + x.1.length ≤ l0.length ∧ x.2.2.1 ++ orderGo av x.2.2.2 x.1 = orderGo av l0.length l0) (fun x => x.1.length) (l0, l0, [], l0.length) ⟨⟨0, by simp⟩, rfl, by simp, by simp, rfl⟩ ?_ ?_ ?_
  · cbv; (simp only [sxs, sxb, and_self, and_true, true_and, implies_true, imp_self, bne_eq_false_iff_eq, Nat.zero_add, Nat.le_refl, Int.toNat_natCast, Int.ofNat_lt, Int.natCast_nonneg, decide_eq_true_eq, decide_eq_false_iff_not, bne_iff_ne, ne_eq]; try dsimp only [Kd.T, Kds.T, AK.T, AKs.T])
    rw [List.take_length]
    subst hav
    all_goals ((repeat' apply And.intro) <;> first | rfl | assumption | exact trivial)
  · cbv; (simp only [sxs, sxb, and_self, and_true, true_and, implies_true, imp_self, bne_eq_false_iff_eq, Nat.zero_add, Nat.le_refl, Int.toNat_natCast, Int.ofNat_lt, Int.natCast_nonneg, decide_eq_true_eq, decide_eq_false_iff_not, bne_iff_ne, ne_eq]; try dsimp only [Kd.T, Kds.T, AK.T, AKs.T])
    rw [List.take_length]
    subst hav
    all_goals ((repeat' apply And.intro) <;> first | rfl | assumption | exact trivial)
  rintro ⟨l, R, out, n⟩ ⟨⟨k, hR⟩, hRl, hn, hol, hout⟩ ih
  simp only at hR hRl hn hol hout ih
  obtain ⟨c, hc⟩ : ∃ c, (byS l av).1 = c := ⟨_, rfl⟩
  have hview' : R.take l.length = l := by rw [hR, List.take_left']; rfl
  have hview : (R.drop 0).take l.length = l := by rw [List.drop_zero, hR, List.take_left']; rfl
  refine AM.run2 hG 100 (by cbv) (by (simp only [sxs, sxb, and_self, and_true, true_and, implies_true, imp_self, bne_eq_false_iff_eq, Nat.zero_add, Nat.le_refl, Int.toNat_natCast, Int.ofNat_lt, Int.natCast_nonneg, decide_eq_true_eq, decide_eq_false_iff_not, bne_iff_ne, ne_eq]; try dsimp only [Kd.T, Kds.T, AK.T, AKs.T])) ?_
  refine AM.case 29 rfl (fun h1 => ?_) (fun h1 => ?_) <;> (simp only [sxs, sxb, and_self, and_true, true_and, implies_true, imp_self, bne_eq_false_iff_eq, Nat.zero_add, Nat.le_refl, Int.toNat_natCast, Int.ofNat_lt, Int.natCast_nonneg, decide_eq_true_eq, decide_eq_false_iff_not, bne_iff_ne, ne_eq] at h1; try dsimp only [Kd.T, Kds.T, AK.T, AKs.T] at h1)
  · have hstep := orderGo_step av hn h1
    have hmem := byS_mem h1
    have hless := filter_less hmem
    rw [hc] at hstep hmem hless
    rw [hstep] at hout
    refine AM.run2 hG 100 (by cbv) ?_ ?_
    · (simp only [sxs, sxb, and_self, and_true, true_and, implies_true, imp_self, bne_eq_false_iff_eq, Nat.zero_add, Nat.le_refl, Int.toNat_natCast, Int.ofNat_lt, Int.natCast_nonneg, decide_eq_true_eq, decide_eq_false_iff_not, bne_iff_ne, ne_eq]; try dsimp only [Kd.T, Kds.T, AK.T, AKs.T])
      simp only [maxLen, List.length_take, List.length_cons, List.length_nil]
      omega
    refine AM.inlineB hG (by cbv) rfl (by cbv) Try.func97 (by kernel_rfl) rfl rfl Try.ntmps97 fun G1 hG1 hB1 hQ1 => ?_

    replace hB1 : GB G1 8 := ⟨hB1⟩
    refine AM.run2 hG1 100 (by cbv) ?_ ?_
    · (simp only [sxs, sxb, and_self, and_true, true_and, implies_true, imp_self, bne_eq_false_iff_eq, Nat.zero_add, Nat.le_refl, Int.toNat_natCast, Int.ofNat_lt, Int.natCast_nonneg, decide_eq_true_eq, decide_eq_false_iff_not, bne_iff_ne, ne_eq]; try dsimp only [Kd.T, Kds.T, AK.T, AKs.T])
      rw [hview']
      omega
    obtain ⟨p, hp⟩ : ∃ p : Call → Bool, p = fun y => sameB y c := ⟨_, rfl⟩
    have hpc : p c = true := by rw [hp]; simp [sameB]
    refine AM.case 12 rfl (fun e1 => ?_) (fun e1 => ?_) <;> (simp only [sxs, sxb, and_self, and_true, true_and, implies_true, imp_self, bne_eq_false_iff_eq, Nat.zero_add, Nat.le_refl, Int.toNat_natCast, Int.ofNat_lt, Int.natCast_nonneg, decide_eq_true_eq, decide_eq_false_iff_not, bne_iff_ne, ne_eq] at e1; try dsimp only [Kd.T, Kds.T, AK.T, AKs.T] at e1)
    · exfalso
      replace e1 : idxOf (fun y => sameB y (byS l av).1) ((R.drop 0).take l.length) = -1 := e1
      rw [hview, hc] at e1
      have := idxOf_neg e1
      rw [this] at hless
      omega
    replace e1 : ¬ idxOf (fun y => sameB y (byS l av).1) ((R.drop 0).take l.length) = -1 := e1
    rw [hview, hc, ← hp] at e1
    have hge := idxOf_ge p l
    obtain ⟨i0, hi0⟩ : ∃ n : Nat, idxOf p l = n := ⟨(idxOf p l).toNat, by omega⟩
    have hD0 := DelI.start k hi0
    rw [← hR] at hD0
    refine AM.run2 hG1 100 (by cbv) (by (simp only [sxs, sxb, and_self, and_true, true_and, implies_true, imp_self, bne_eq_false_iff_eq, Nat.zero_add, Nat.le_refl, Int.toNat_natCast, Int.ofNat_lt, Int.natCast_nonneg, decide_eq_true_eq, decide_eq_false_iff_not, bne_iff_ne, ne_eq]; try dsimp only [Kd.T, Kds.T, AK.T, AKs.T])) ?_
    refine AM.loopI (fun y : List Call × Nat × Nat => (frame 42 [(0, .sl 2 4 (.l 0) (.t fun _ => l.length)), (1, .fn (.func 98) [] [.ptr 4 0]), (5, .int .i64 (.t fun _ => nI y.2.1)), (6, .int .i64 (.t fun _ => nI y.2.2))],
      [.box 25 [.int .i64 (.t fun _ => cap), .ro CallK fun _ => l0], .box 27 [.int .i64 (.t fun _ => a1), .int .i64 (.t fun _ => a2), .int .i64 (.t fun _ => a3), .int .i64 (.t fun _ => a4), .int .i64 (.t fun _ => a5), .int .i64 (.t fun _ => a6), .int .i64 (.t fun _ => a7), .int .i64 (.t fun _ => a8), .int .i64 (.t fun _ => a9), .ro CallK fun _ => gone],
       .row 31 CallK (fun _ => y.1), .box 25 [.int .i64 (.t fun _ => cap), .sl 2 4 (.l 0) (.t fun _ => l.length)], .box 31 (cAtF fun _ => (byS l av).1), .dead, .dead, .row 31 CallK (fun _ => out ++ [c])]))
      (fun y => DelI p l k y.1 y.2.1 y.2.2) (fun y => l.length - y.2.2) (R, i0, i0 + 1) hD0 ?_ ?_ ?_
    · cbv; (simp only [sxs, sxb, and_self, and_true, true_and, implies_true, imp_self, bne_eq_false_iff_eq, Nat.zero_add, Nat.le_refl, Int.toNat_natCast, Int.ofNat_lt, Int.natCast_nonneg, decide_eq_true_eq, decide_eq_false_iff_not, bne_iff_ne, ne_eq]; try dsimp only [Kd.T, Kds.T, AK.T, AKs.T])
      have e2 : idxOf (fun y => sameB y (byS l av).1) (R.take l.length) = i0 := by rw [hview', hc, ← hp, hi0]
      refine ⟨e2, ?_⟩
      refine Eq.trans (congrArg (fun z => IntKind.i64.wrap (z + 1)) e2) (w64s (by have := idxOf_spec hi0; omega))
    · cbv; (simp only [sxs, sxb, and_self, and_true, true_and, implies_true, imp_self, bne_eq_false_iff_eq, Nat.zero_add, Nat.le_refl, Int.toNat_natCast, Int.ofNat_lt, Int.natCast_nonneg, decide_eq_true_eq, decide_eq_false_iff_not, bne_iff_ne, ne_eq]; try dsimp only [Kd.T, Kds.T, AK.T, AKs.T])
      rw [← hc]; rfl
    rintro ⟨R1, i, j⟩ hD ih1
    simp only at hD ih1
    have hRl1 := hD.len
    have hij := hD.ij
    have hjl := hD.jl
    have hRk : R.length = l.length + k := by rw [hR]; simp
    refine AM.run2 hG1 100 (by cbv) (by (simp only [sxs, sxb, and_self, and_true, true_and, implies_true, imp_self, bne_eq_false_iff_eq, Nat.zero_add, Nat.le_refl, Int.toNat_natCast, Int.ofNat_lt, Int.natCast_nonneg, decide_eq_true_eq, decide_eq_false_iff_not, bne_iff_ne, ne_eq]; try dsimp only [Kd.T, Kds.T, AK.T, AKs.T])) ?_
    refine AM.case 19 rfl (fun e2 => ?_) (fun e2 => ?_) <;> (simp only [sxs, sxb, and_self, and_true, true_and, implies_true, imp_self, bne_eq_false_iff_eq, Nat.zero_add, Nat.le_refl, Int.toNat_natCast, Int.ofNat_lt, Int.natCast_nonneg, decide_eq_true_eq, decide_eq_false_iff_not, bne_iff_ne, ne_eq] at e2; try dsimp only [Kd.T, Kds.T, AK.T, AKs.T] at e2)
    · have hat := hD.at e2
      refine AM.run2 hG1 100 (by cbv) ?_ ?_
      · (simp only [sxs, sxb, and_self, and_true, true_and, implies_true, imp_self, bne_eq_false_iff_eq, Nat.zero_add, Nat.le_refl, Int.toNat_natCast, Int.ofNat_lt, Int.natCast_nonneg, decide_eq_true_eq, decide_eq_false_iff_not, bne_iff_ne, ne_eq]; try dsimp only [Kd.T, Kds.T, AK.T, AKs.T])
        omega
      refine AM.case 29 rfl (fun e3 => ?_) (fun e3 => ?_) <;> (simp only [sxs, sxb, and_self, and_true, true_and, implies_true, imp_self, bne_eq_false_iff_eq, Nat.zero_add, Nat.le_refl, Int.toNat_natCast, Int.ofNat_lt, Int.natCast_nonneg, decide_eq_true_eq, decide_eq_false_iff_not, bne_iff_ne, ne_eq] at e3; try dsimp only [Kd.T, Kds.T, AK.T, AKs.T] at e3)
      · replace e3 : sameB (R1.getD j zc) (byS l av).1 = false := e3
        rw [hc, hat] at e3
        have hD1 := hD.keep e2 (by rw [hp]; exact e3)
        rw [← hat] at hD1
        refine AM.run2 hG1 100 (by cbv) ?_ ?_
        · (simp only [sxs, sxb, and_self, and_true, true_and, implies_true, imp_self, bne_eq_false_iff_eq, Nat.zero_add, Nat.le_refl, Int.toNat_natCast, Int.ofNat_lt, Int.natCast_nonneg, decide_eq_true_eq, decide_eq_false_iff_not, bne_iff_ne, ne_eq]; try dsimp only [Kd.T, Kds.T, AK.T, AKs.T])
          omega
        obtain ⟨R2, hR2⟩ : ∃ R2, R1.set i (R1.getD j zc) = R2 := ⟨_, rfl⟩
        rw [hR2] at hD1
        refine AM.ren hB1 [0, 1, 2, 3, 4, 5, 6, 7] (by cbv) (by cbv) (by cbv) ?_ ?_ (ih1 (R2, i + 1, j + 1) hD1 (by simp only; omega))
        · (simp only [sxs, sxb, and_self, and_true, true_and, implies_true, imp_self, bne_eq_false_iff_eq, Nat.zero_add, Nat.le_refl, Int.toNat_natCast, Int.ofNat_lt, Int.natCast_nonneg, decide_eq_true_eq, decide_eq_false_iff_not, bne_iff_ne, ne_eq]; try dsimp only [Kd.T, Kds.T, AK.T, AKs.T])
          exact ⟨w64s (by omega), w64s (by omega)⟩
        · (simp only [sxs, sxb, and_self, and_true, true_and, implies_true, imp_self, bne_eq_false_iff_eq, Nat.zero_add, Nat.le_refl, Int.toNat_natCast, Int.ofNat_lt, Int.natCast_nonneg, decide_eq_true_eq, decide_eq_false_iff_not, bne_iff_ne, ne_eq]; try dsimp only [Kd.T, Kds.T, AK.T, AKs.T])
          rw [← hR2]
      · replace e3 : sameB (R1.getD j zc) (byS l av).1 = true := e3
        rw [hc, hat] at e3
        have hD1 := hD.del e2 (by rw [hp]; exact e3)
        refine AM.run2 hG1 100 (by cbv) ?_ ?_
        · (simp only [sxs, sxb, and_self, and_true, true_and, implies_true, imp_self, bne_eq_false_iff_eq, Nat.zero_add, Nat.le_refl, Int.toNat_natCast, Int.ofNat_lt, Int.natCast_nonneg, decide_eq_true_eq, decide_eq_false_iff_not, bne_iff_ne, ne_eq]; try dsimp only [Kd.T, Kds.T, AK.T, AKs.T])
        refine AM.ren hB1 [0, 1, 2, 3, 4, 5, 6, 7] (by cbv) (by cbv) (by cbv) ?_ ?_ (ih1 (R1, i, j + 1) hD1 (by simp only; omega))
        · (simp only [sxs, sxb, and_self, and_true, true_and, implies_true, imp_self, bne_eq_false_iff_eq, Nat.zero_add, Nat.le_refl, Int.toNat_natCast, Int.ofNat_lt, Int.natCast_nonneg, decide_eq_true_eq, decide_eq_false_iff_not, bne_iff_ne, ne_eq]; try dsimp only [Kd.T, Kds.T, AK.T, AKs.T])
          exact w64s (by omega)
        · (simp only [sxs, sxb, and_self, and_true, true_and, implies_true, imp_self, bne_eq_false_iff_eq, Nat.zero_add, Nat.le_refl, Int.toNat_natCast, Int.ofNat_lt, Int.natCast_nonneg, decide_eq_true_eq, decide_eq_false_iff_not, bne_iff_ne, ne_eq]; try dsimp only [Kd.T, Kds.T, AK.T, AKs.T])
    · obtain rfl : j = l.length := by omega
      obtain ⟨hi1, hfin⟩ := hD.fin
      clear ih1
      refine AM.run2 hG1 100 (by cbv) ?_ ?_
      · (simp only [sxs, sxb, and_self, and_true, true_and, implies_true, imp_self, bne_eq_false_iff_eq, Nat.zero_add, Nat.le_refl, Int.toNat_natCast, Int.ofNat_lt, Int.natCast_nonneg, decide_eq_true_eq, decide_eq_false_iff_not, bne_iff_ne, ne_eq]; try dsimp only [Kd.T, Kds.T, AK.T, AKs.T])
        omega
      obtain ⟨l2, hl2⟩ : ∃ l2, l.filter (fun x => !sameB x c) = l2 := ⟨_, rfl⟩
      obtain ⟨R2, hR2⟩ : ∃ R2, R1.take i ++ List.replicate (l.length - i) zc ++ R1.drop (i + (l.length - i)) = R2 := ⟨_, rfl⟩
      rw [hR2, hp] at hfin
      simp only at hfin
      rw [hp] at hi1
      simp only at hi1
      rw [hl2] at hfin hi1 hout hless
      have hv2 : R2.take i = l2 := by rw [hfin, hi1, List.take_left']; rfl
      have hR2l : R2.length = l.length + k := by rw [hfin]; simp; omega
      refine AM.ret2 hG1 (by cbv) (by (simp only [sxs, sxb, and_self, and_true, true_and, implies_true, imp_self, bne_eq_false_iff_eq, Nat.zero_add, Nat.le_refl, Int.toNat_natCast, Int.ofNat_lt, Int.natCast_nonneg, decide_eq_true_eq, decide_eq_false_iff_not, bne_iff_ne, ne_eq]; try dsimp only [Kd.T, Kds.T, AK.T, AKs.T])) (hQ1 _ _ ?_)
      refine AM.run2 hG 100 (by cbv) ?_ ?_
      · (simp only [sxs, sxb, and_self, and_true, true_and, implies_true, imp_self, bne_eq_false_iff_eq, Nat.zero_add, Nat.le_refl, Int.toNat_natCast, Int.ofNat_lt, Int.natCast_nonneg, decide_eq_true_eq, decide_eq_false_iff_not, bne_iff_ne, ne_eq]; try dsimp only [Kd.T, Kds.T, AK.T, AKs.T])
        rw [hR2, hv2]
        exact ⟨⟨⟨by omega, hg⟩, hr⟩, by omega⟩
      have hout' : (out ++ [c]) ++ orderGo av (n - 1) l2 = orderGo av l0.length l0 := by rw [List.append_assoc]; exact hout
      obtain ⟨out2, ho2⟩ : ∃ out2, out ++ [c] = out2 := ⟨_, rfl⟩
      obtain ⟨n2, hn2⟩ : ∃ n2, n - 1 = n2 := ⟨_, rfl⟩
      have hol2 : out2.length = out.length + 1 := by rw [← ho2]; simp
      rw [ho2, hn2] at hout'
      refine AM.ren hB [0, 1, 2, 3, 8, 7] (by cbv) (by cbv) (by cbv) ?_ ?_ (ih (l2, R2, out2, n2) ⟨⟨_, hfin⟩, by simp only; omega, by simp only; omega, by simp only; omega, hout'⟩ hless)
      · (simp only [sxs, sxb, and_self, and_true, true_and, implies_true, imp_self, bne_eq_false_iff_eq, Nat.zero_add, Nat.le_refl, Int.toNat_natCast, Int.ofNat_lt, Int.natCast_nonneg, decide_eq_true_eq, decide_eq_false_iff_not, bne_iff_ne, ne_eq]; try dsimp only [Kd.T, Kds.T, AK.T, AKs.T])
        rw [hR2, hv2]
        subst hav
        exact ⟨hol2.symm, rfl⟩
      · (simp only [sxs, sxb, and_self, and_true, true_and, implies_true, imp_self, bne_eq_false_iff_eq, Nat.zero_add, Nat.le_refl, Int.toNat_natCast, Int.ofNat_lt, Int.natCast_nonneg, decide_eq_true_eq, decide_eq_false_iff_not, bne_iff_ne, ne_eq]; try dsimp only [Kd.T, Kds.T, AK.T, AKs.T])
        rw [hR2, hv2]
        subst hav
        all_goals ((repeat' apply And.intro) <;> first | rfl | assumption)
  · refine AM.run2 hG 100 (by cbv) (by (simp only [sxs, sxb, and_self, and_true, true_and, implies_true, imp_self, bne_eq_false_iff_eq, Nat.zero_add, Nat.le_refl, Int.toNat_natCast, Int.ofNat_lt, Int.natCast_nonneg, decide_eq_true_eq, decide_eq_false_iff_not, bne_iff_ne, ne_eq]; try dsimp only [Kd.T, Kds.T, AK.T, AKs.T])) ?_
    refine AM.ret2 hG (by cbv) (by (simp only [sxs, sxb, and_self, and_true, true_and, implies_true, imp_self, bne_eq_false_iff_eq, Nat.zero_add, Nat.le_refl, Int.toNat_natCast, Int.ofNat_lt, Int.natCast_nonneg, decide_eq_true_eq, decide_eq_false_iff_not, bne_iff_ne, ne_eq]; try dsimp only [Kd.T, Kds.T, AK.T, AKs.T])) (hQ _ _ (FinRo.of (by cbv) (by cbv) ?_ ?_))
    · (simp only [sxs, sxb, and_self, and_true, true_and, implies_true, imp_self, bne_eq_false_iff_eq, Nat.zero_add, Nat.le_refl, Int.toNat_natCast, Int.ofNat_lt, Int.natCast_nonneg, decide_eq_true_eq, decide_eq_false_iff_not, bne_iff_ne, ne_eq]; try dsimp only [Kd.T, Kds.T, AK.T, AKs.T])
    try (simp only [sxs, sxb, and_self, and_true, true_and, implies_true, imp_self, bne_eq_false_iff_eq, Nat.zero_add, Nat.le_refl, Int.toNat_natCast, Int.ofNat_lt, Int.natCast_nonneg, decide_eq_true_eq, decide_eq_false_iff_not, bne_iff_ne, ne_eq]; try dsimp only [Kd.T, Kds.T, AK.T, AKs.T])
    rw [← hav, hs, ← hout, orderGo_nil av n h1]
    simp
end Go.Sx.Yteiehkafkcggeaa

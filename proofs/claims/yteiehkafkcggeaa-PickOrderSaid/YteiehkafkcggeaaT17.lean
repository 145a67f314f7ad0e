/- Chapter 28: tables and questions made of numbers. -/
import Derived.Test.YteiehkafkcggeaaT11
namespace Go.Sx.Yteiehkafkcggeaa
open Go Go.Sx Go.Proofs
set_option linter.unusedVariables false
set_option linter.unusedSimpArgs false
set_option maxRecDepth 100000

theorem AM.meetM {G : Gl} {κ : Type} (E : κ → List AV × List Blk) (J : κ → Prop) {c : Cfg} {k' : List It} (go : (∀ e, J e → AM G ⟨(E e).1, (E e).2, k'⟩) → AM G c) (after : ∀ e, J e → AM G ⟨(E e).1, (E e).2, k'⟩) : AM G c := go after
theorem take_succI {l : List Int} {i : Nat} (h : i < l.length) : l.take (i + 1) = l.take i ++ [l.getD i 0] := by
  rw [List.take_add_one, List.getElem?_eq_getElem h, List.getD_eq_getElem?_getD, List.getElem?_eq_getElem h]; rfl
def modS (n m : Int) : Int := if m < 1 then 0 else n % m
def S32 : List AV → Option FOut := sigSpec [I64, I64] [I64] (fun x : Int × Int × Unit => (modS x.1 x.2.1, ())) (fun x : Int × Int × Unit => x.2.1 ≤ 4611686018427387904)
theorem fn32 : FnOk Try.prog 32 S32 := by
  refine fn_of (rs := [.tmp 4]) (env [] trivial) Try.func32 (by kernel_rfl) rfl rfl Try.ntmps32 ?_
  rintro ⟨(n : Int), (m : Int), u⟩ hm G hG hQ
  simp only at hm
  refine AM.run2 hG 100 (by cbv) (by (simp only [sxs, sxb, and_self, and_true, true_and, implies_true, imp_self, bne_eq_false_iff_eq, Nat.zero_add, Nat.le_refl, Int.toNat_natCast, Int.ofNat_lt, Int.natCast_nonneg, decide_eq_true_eq, decide_eq_false_iff_not, bne_iff_ne, ne_eq]; try dsimp only [Kd.T, Kds.T, AK.T, AKs.T])) ?_
  refine AM.case 6 rfl (fun h => ?_) (fun h => ?_) <;> (simp only [sxs, sxb, and_self, and_true, true_and, implies_true, imp_self, bne_eq_false_iff_eq, Nat.zero_add, Nat.le_refl, Int.toNat_natCast, Int.ofNat_lt, Int.natCast_nonneg, decide_eq_true_eq, decide_eq_false_iff_not, bne_iff_ne, ne_eq] at h; try dsimp only [Kd.T, Kds.T, AK.T, AKs.T] at h)
  · refine AM.run2 hG 100 (by cbv) (by (simp only [sxs, sxb, and_self, and_true, true_and, implies_true, imp_self, bne_eq_false_iff_eq, Nat.zero_add, Nat.le_refl, Int.toNat_natCast, Int.ofNat_lt, Int.natCast_nonneg, decide_eq_true_eq, decide_eq_false_iff_not, bne_iff_ne, ne_eq]; try dsimp only [Kd.T, Kds.T, AK.T, AKs.T])) ?_
    refine AM.ret2 hG (by cbv) (by (simp only [sxs, sxb, and_self, and_true, true_and, implies_true, imp_self, bne_eq_false_iff_eq, Nat.zero_add, Nat.le_refl, Int.toNat_natCast, Int.ofNat_lt, Int.natCast_nonneg, decide_eq_true_eq, decide_eq_false_iff_not, bne_iff_ne, ne_eq]; try dsimp only [Kd.T, Kds.T, AK.T, AKs.T])) (hQ _ _ (FinRo.of (by cbv) (by cbv) ?_ ?_))
    · (simp only [sxs, sxb, and_self, and_true, true_and, implies_true, imp_self, bne_eq_false_iff_eq, Nat.zero_add, Nat.le_refl, Int.toNat_natCast, Int.ofNat_lt, Int.natCast_nonneg, decide_eq_true_eq, decide_eq_false_iff_not, bne_iff_ne, ne_eq]; try dsimp only [Kd.T, Kds.T, AK.T, AKs.T])
    try (simp only [sxs, sxb, and_self, and_true, true_and, implies_true, imp_self, bne_eq_false_iff_eq, Nat.zero_add, Nat.le_refl, Int.toNat_natCast, Int.ofNat_lt, Int.natCast_nonneg, decide_eq_true_eq, decide_eq_false_iff_not, bne_iff_ne, ne_eq]; try dsimp only [Kd.T, Kds.T, AK.T, AKs.T])
    simp only [modS, if_pos h]
  · refine AM.run2 hG 100 (by cbv) ?_ ?_
    · (simp only [sxs, sxb, and_self, and_true, true_and, implies_true, imp_self, bne_eq_false_iff_eq, Nat.zero_add, Nat.le_refl, Int.toNat_natCast, Int.ofNat_lt, Int.natCast_nonneg, decide_eq_true_eq, decide_eq_false_iff_not, bne_iff_ne, ne_eq]; try dsimp only [Kd.T, Kds.T, AK.T, AKs.T])
      omega
    have h1 := Int.tmod_add_mul_tdiv n m
    refine AM.case 11 rfl (fun g => ?_) (fun g => ?_) <;> (simp only [sxs, sxb, and_self, and_true, true_and, implies_true, imp_self, bne_eq_false_iff_eq, Nat.zero_add, Nat.le_refl, Int.toNat_natCast, Int.ofNat_lt, Int.natCast_nonneg, decide_eq_true_eq, decide_eq_false_iff_not, bne_iff_ne, ne_eq] at g; try dsimp only [Kd.T, Kds.T, AK.T, AKs.T] at g)
    · refine AM.run2 hG 100 (by cbv) (by (simp only [sxs, sxb, and_self, and_true, true_and, implies_true, imp_self, bne_eq_false_iff_eq, Nat.zero_add, Nat.le_refl, Int.toNat_natCast, Int.ofNat_lt, Int.natCast_nonneg, decide_eq_true_eq, decide_eq_false_iff_not, bne_iff_ne, ne_eq]; try dsimp only [Kd.T, Kds.T, AK.T, AKs.T])) ?_
      have h2 : n.tmod m + m = n % m := by
        rcases (show n < 0 ∨ 0 ≤ n by omega) with hn | hn
        · rw [Int.tmod_eq_emod]
          rw [Int.tmod_eq_emod] at g
          simp only [show ¬ 0 ≤ n by omega, false_or] at g ⊢
          split at g
          · have := Int.emod_nonneg n (show m ≠ 0 by omega); omega
          · rename_i hd
            rw [if_neg hd]
            omega
        · rw [Int.tmod_eq_emod_of_nonneg hn] at g
          have := Int.emod_nonneg n (show m ≠ 0 by omega); omega
      have h3 := Int.emod_nonneg n (show m ≠ 0 by omega)
      have h4 := Int.emod_lt_of_pos n (show 0 < m by omega)
      refine AM.ret2 hG (by cbv) (by (simp only [sxs, sxb, and_self, and_true, true_and, implies_true, imp_self, bne_eq_false_iff_eq, Nat.zero_add, Nat.le_refl, Int.toNat_natCast, Int.ofNat_lt, Int.natCast_nonneg, decide_eq_true_eq, decide_eq_false_iff_not, bne_iff_ne, ne_eq]; try dsimp only [Kd.T, Kds.T, AK.T, AKs.T])) (hQ _ _ (FinRo.of (by cbv) (by cbv) ?_ ?_))
      · (simp only [sxs, sxb, and_self, and_true, true_and, implies_true, imp_self, bne_eq_false_iff_eq, Nat.zero_add, Nat.le_refl, Int.toNat_natCast, Int.ofNat_lt, Int.natCast_nonneg, decide_eq_true_eq, decide_eq_false_iff_not, bne_iff_ne, ne_eq]; try dsimp only [Kd.T, Kds.T, AK.T, AKs.T])
      try (simp only [sxs, sxb, and_self, and_true, true_and, implies_true, imp_self, bne_eq_false_iff_eq, Nat.zero_add, Nat.le_refl, Int.toNat_natCast, Int.ofNat_lt, Int.natCast_nonneg, decide_eq_true_eq, decide_eq_false_iff_not, bne_iff_ne, ne_eq]; try dsimp only [Kd.T, Kds.T, AK.T, AKs.T])
      rw [h2, w64 (by omega) (by omega)]
      simp only [modS, if_neg h]
    · refine AM.run2 hG 100 (by cbv) (by (simp only [sxs, sxb, and_self, and_true, true_and, implies_true, imp_self, bne_eq_false_iff_eq, Nat.zero_add, Nat.le_refl, Int.toNat_natCast, Int.ofNat_lt, Int.natCast_nonneg, decide_eq_true_eq, decide_eq_false_iff_not, bne_iff_ne, ne_eq]; try dsimp only [Kd.T, Kds.T, AK.T, AKs.T])) ?_
      refine AM.ret2 hG (by cbv) (by (simp only [sxs, sxb, and_self, and_true, true_and, implies_true, imp_self, bne_eq_false_iff_eq, Nat.zero_add, Nat.le_refl, Int.toNat_natCast, Int.ofNat_lt, Int.natCast_nonneg, decide_eq_true_eq, decide_eq_false_iff_not, bne_iff_ne, ne_eq]; try dsimp only [Kd.T, Kds.T, AK.T, AKs.T])) (hQ _ _ (FinRo.of (by cbv) (by cbv) ?_ ?_))
      · (simp only [sxs, sxb, and_self, and_true, true_and, implies_true, imp_self, bne_eq_false_iff_eq, Nat.zero_add, Nat.le_refl, Int.toNat_natCast, Int.ofNat_lt, Int.natCast_nonneg, decide_eq_true_eq, decide_eq_false_iff_not, bne_iff_ne, ne_eq]; try dsimp only [Kd.T, Kds.T, AK.T, AKs.T])
      try (simp only [sxs, sxb, and_self, and_true, true_and, implies_true, imp_self, bne_eq_false_iff_eq, Nat.zero_add, Nat.le_refl, Int.toNat_natCast, Int.ofNat_lt, Int.natCast_nonneg, decide_eq_true_eq, decide_eq_false_iff_not, bne_iff_ne, ne_eq]; try dsimp only [Kd.T, Kds.T, AK.T, AKs.T])
      simp only [modS, if_neg h]
      rw [Int.tmod_eq_emod] at g ⊢
      have h3 := Int.emod_nonneg n (show m ≠ 0 by omega)
      have h4 := Int.emod_lt_of_pos n (show 0 < m by omega)
      split at g
      · rename_i hd; rw [if_pos hd]; omega
      · omega
theorem qr {k : Int} (h0 : 0 ≤ k) (h1 : k < 1073741824) (m n : Int) (hm : 0 < m) (hm2 : m ≤ 1073741824) : (IntKind.i64.wrap (k.tdiv m)).tmod n = (k / m) % n ∧ IntKind.i64.wrap (k.tdiv m) = k / m := by
  have q0 := Int.ediv_nonneg h0 (Int.le_of_lt hm)
  have q1 := Int.ediv_le_self m h0
  rw [Int.tdiv_eq_ediv_of_nonneg h0, w64 (by omega) (by omega), Int.tmod_eq_emod_of_nonneg q0]
  exact ⟨rfl, rfl⟩
theorem modS_in (n : Int) {m : Int} (h : 0 < m) : 0 ≤ modS n m ∧ modS n m < m := by
  rw [modS, if_neg (by omega)]
  exact ⟨Int.emod_nonneg n (by omega), Int.emod_lt_of_pos n h⟩
def callM (k a : Int) : Call := if (k / 128) % 3 = 0 then (3, (k / 16) % 8, 1 + (k / 512) % 3, a, ()) else (1 + (k / 4) % 2, (k / 16) % 8, 0, a, ())
def stepM (s : Int × List Call) (n : Int) : Int × List Call :=
  let k := modS n 16777216
  let a := s.1 + k % 4
  if s.2.any (sameB (callM k a)) = true then (a, s.2) else (a, s.2 ++ [callM k a])
def madeM (nums : List Int) : Int × List Call := (nums.take 20).foldl stepM (0, [])
def askM (a n now : Int) : Ask := let k := modS n 1048576
  (1 + k % 3, (k / 3) % 4, (k / 12) % 16, a + modS now 40, 1 + (k / 192) % 40, 0, 500, (k / 8192) % 8, 2, [], ())
def S15 : List AV → Option FOut := ownSpec (decArgs [IntsK, I64, I64]) (fun y => .tup [.agg [.int .i64 (.l 20), .ro CallK fun _ => (madeM (y ()).1).2],
    .agg [.int .i64 (.t fun _ => (askM (madeM (y ()).1).1 (y ()).2.1 (y ()).2.2.1).1), .int .i64 (.t fun _ => (askM (madeM (y ()).1).1 (y ()).2.1 (y ()).2.2.1).2.1), .int .i64 (.t fun _ => (askM (madeM (y ()).1).1 (y ()).2.1 (y ()).2.2.1).2.2.1), .int .i64 (.t fun _ => (askM (madeM (y ()).1).1 (y ()).2.1 (y ()).2.2.1).2.2.2.1),
      .int .i64 (.t fun _ => (askM (madeM (y ()).1).1 (y ()).2.1 (y ()).2.2.1).2.2.2.2.1), .int .i64 (.l 0), .int .i64 (.l 500), .int .i64 (.t fun _ => (askM (madeM (y ()).1).1 (y ()).2.1 (y ()).2.2.1).2.2.2.2.2.2.2.1), .int .i64 (.l 2), .nils]]) (fun _ => []) (fun _ : List Int × Int × Int × Unit => True)
set_option maxHeartbeats 8000000 in
theorem fn15 : FnOk Try.prog 15 S15 := by
  refine fn_ofO (rs := [.cell 6 25, .cell 7 27]) (env [(32, S32)] ⟨fn32, trivial⟩) Try.func15 (by kernel_rfl) rfl rfl Try.ntmps15 (enc := encArgs [IntsK, I64, I64]) (dec := decArgs [IntsK, I64, I64]) encArgs_ok (encArgs_len [IntsK, I64, I64]) ?_
  rintro ⟨(nums : List Int), (n : Int), (now : Int), u2⟩ _ G hG hB hQ
  have hB := GB.of hB
  refine AM.run2 hG 100 (by cbv) ?_ ?_
  · (simp only [sxs, sxb, and_self, and_true, true_and, implies_true, imp_self, bne_eq_false_iff_eq, Nat.zero_add, Nat.le_refl, Int.toNat_natCast, Int.ofNat_lt, Int.natCast_nonneg, decide_eq_true_eq, decide_eq_false_iff_not, bne_iff_ne, ne_eq]; try dsimp only [Kd.T, Kds.T, AK.T, AKs.T])
  refine AM.emptyRow 2 1 31 CallK rfl (by decide) rfl ?_
  refine AM.loopI (fun z : Nat × Int × List Call => (frame 124 [(0, .ro I64 fun _ => nums), (1, .int .i64 (.t fun _ => n)), (2, .int .i64 (.t fun _ => now)), (6, .ptr 0 0), (7, .ptr 1 0), (8, .ptr 2 0), (9, .int .i64 (.t fun _ => z.2.1)), (10, .int .i64 (.t fun _ => nI z.1))],
    [.box 25 [.int .i64 (.l 0), .nils], .box 27 [.int .i64 (.l 0), .int .i64 (.l 0), .int .i64 (.l 0), .int .i64 (.l 0), .int .i64 (.l 0), .int .i64 (.l 0), .int .i64 (.l 0), .int .i64 (.l 0), .int .i64 (.l 0), .nils],
     .box 25 [.int .i64 (.l 20), .sl 3 4 (.l 0) (.t fun _ => z.2.2.length)], .row 31 CallK (fun _ => z.2.2)]))
    (fun z => z.1 ≤ nums.length ∧ z.1 ≤ 20 ∧ (nums.take z.1).foldl stepM (0, []) = (z.2.1, z.2.2) ∧ z.2.2.length ≤ z.1 ∧ 0 ≤ z.2.1 ∧ z.2.1 ≤ 4 * z.1) (fun z => nums.length - z.1) (0, 0, []) ⟨by simp, by simp, rfl, by simp, by simp, by simp⟩ ?_ ?_ ?_
  · cbv; (simp only [sxs, sxb, and_self, and_true, true_and, implies_true, imp_self, bne_eq_false_iff_eq, Nat.zero_add, Nat.le_refl, Int.toNat_natCast, Int.ofNat_lt, Int.natCast_nonneg, decide_eq_true_eq, decide_eq_false_iff_not, bne_iff_ne, ne_eq]; try dsimp only [Kd.T, Kds.T, AK.T, AKs.T]); all_goals ((repeat' apply And.intro) <;> first | rfl | assumption | exact trivial)
  · cbv; (simp only [sxs, sxb, and_self, and_true, true_and, implies_true, imp_self, bne_eq_false_iff_eq, Nat.zero_add, Nat.le_refl, Int.toNat_natCast, Int.ofNat_lt, Int.natCast_nonneg, decide_eq_true_eq, decide_eq_false_iff_not, bne_iff_ne, ne_eq]; try dsimp only [Kd.T, Kds.T, AK.T, AKs.T]); all_goals ((repeat' apply And.intro) <;> first | rfl | assumption | exact trivial)
  rintro ⟨i, a, l⟩ ⟨hi, hi20, hs, hli, ha, ha4⟩ ih
  simp only at hi hi20 hs hli ha ha4
  refine AM.run2 hG 100 (by cbv) ?_ ?_
  · (simp only [sxs, sxb, and_self, and_true, true_and, implies_true, imp_self, bne_eq_false_iff_eq, Nat.zero_add, Nat.le_refl, Int.toNat_natCast, Int.ofNat_lt, Int.natCast_nonneg, decide_eq_true_eq, decide_eq_false_iff_not, bne_iff_ne, ne_eq]; try dsimp only [Kd.T, Kds.T, AK.T, AKs.T])
  refine AM.case 25 rfl (fun h => ?_) (fun h => ?_)
  · replace h : (if ltI (nI i) (nI nums.length) = true then ltI (nI i) 20 else false) = true := h
    rw [ite_and, Bool.and_eq_true, ltI_t, ltI_t] at h
    obtain ⟨h, h20⟩ := h
    (simp only [sxs, sxb, and_self, and_true, true_and, implies_true, imp_self, bne_eq_false_iff_eq, Nat.zero_add, Nat.le_refl, Int.toNat_natCast, Int.ofNat_lt, Int.natCast_nonneg, decide_eq_true_eq, decide_eq_false_iff_not, bne_iff_ne, ne_eq] at h h20; try dsimp only [Kd.T, Kds.T, AK.T, AKs.T] at h h20)
    refine AM.run2 hG 100 (by cbv) ?_ ?_
    · (simp only [sxs, sxb, and_self, and_true, true_and, implies_true, imp_self, bne_eq_false_iff_eq, Nat.zero_add, Nat.le_refl, Int.toNat_natCast, Int.ofNat_lt, Int.natCast_nonneg, decide_eq_true_eq, decide_eq_false_iff_not, bne_iff_ne, ne_eq]; try dsimp only [Kd.T, Kds.T, AK.T, AKs.T])
      all_goals ((repeat' first | apply And.intro | intro _) <;> omega)
    obtain ⟨k, hk⟩ : ∃ k, modS (nums.getD i 0) 16777216 = k := ⟨_, rfl⟩
    have hk0 := modS_in (nums.getD i 0) (show (0 : Int) < 16777216 by decide)
    rw [hk] at hk0
    obtain ⟨hk0, hk1⟩ := hk0
    have ek : k.tmod 4 = k % 4 := Int.tmod_eq_emod_of_nonneg hk0
    obtain ⟨b, hb⟩ : ∃ b, a + k % 4 = b := ⟨_, rfl⟩
    have eb : IntKind.i64.wrap (a + k.tmod 4) = b := by rw [ek, w64 (by omega) (by omega), hb]
    have e4 := (qr hk0 (by omega) 4 2 (by decide) (by decide)).1
    have e16 := (qr hk0 (by omega) 16 8 (by decide) (by decide)).1
    have e128 := (qr hk0 (by omega) 128 3 (by decide) (by decide)).1
    have e512 := (qr hk0 (by omega) 512 3 (by decide) (by decide)).1
    have ew1 : IntKind.i64.wrap (1 + (k / 4) % 2) = 1 + (k / 4) % 2 := w64 (by omega) (by omega)
    have ew2 : IntKind.i64.wrap (1 + (k / 512) % 3) = 1 + (k / 512) % 3 := w64 (by omega) (by omega)
    refine' AM.meetM (fun c : Call => (frame 124 [(0, .ro I64 fun _ => nums), (1, .int .i64 (.t fun _ => n)), (2, .int .i64 (.t fun _ => now)), (6, .ptr 0 0), (7, .ptr 1 0), (8, .ptr 2 0), (9, .int .i64 (.t fun _ => b)), (10, .int .i64 (.t fun _ => nI i)), (12, .ptr 4 0)],
      [.box 25 [.int .i64 (.l 0), .nils], .box 27 [.int .i64 (.l 0), .int .i64 (.l 0), .int .i64 (.l 0), .int .i64 (.l 0), .int .i64 (.l 0), .int .i64 (.l 0), .int .i64 (.l 0), .int .i64 (.l 0), .int .i64 (.l 0), .nils],
       .box 25 [.int .i64 (.l 20), .sl 3 4 (.l 0) (.t fun _ => l.length)], .row 31 CallK (fun _ => l), .box 31 (cAtF fun _ => c)])) (fun c => c = callM k b) ?_ ?_
    rotate_left 1
    · intro after
      refine AM.case 49 rfl (fun h2 => ?_) (fun h2 => ?_) <;> (simp only [sxs, sxb, and_self, and_true, true_and, implies_true, imp_self, bne_eq_false_iff_eq, Nat.zero_add, Nat.le_refl, Int.toNat_natCast, Int.ofNat_lt, Int.natCast_nonneg, decide_eq_true_eq, decide_eq_false_iff_not, bne_iff_ne, ne_eq] at h2; try dsimp only [Kd.T, Kds.T, AK.T, AKs.T] at h2)
      · rw [hk, e128] at h2
        refine AM.runTo2 hG 13 100 (by cbv) (by (simp only [sxs, sxb, and_self, and_true, true_and, implies_true, imp_self, bne_eq_false_iff_eq, Nat.zero_add, Nat.le_refl, Int.toNat_natCast, Int.ofNat_lt, Int.natCast_nonneg, decide_eq_true_eq, decide_eq_false_iff_not, bne_iff_ne, ne_eq]; try dsimp only [Kd.T, Kds.T, AK.T, AKs.T]); decide) ?_
        refine AM.imp2 (by cbv) (by cbv) ?_ ?_ (after _ rfl)
        · (simp only [sxs, sxb, and_self, and_true, true_and, implies_true, imp_self, bne_eq_false_iff_eq, Nat.zero_add, Nat.le_refl, Int.toNat_natCast, Int.ofNat_lt, Int.natCast_nonneg, decide_eq_true_eq, decide_eq_false_iff_not, bne_iff_ne, ne_eq]; try dsimp only [Kd.T, Kds.T, AK.T, AKs.T])
          rw [hk]
          exact eb
        · (simp only [sxs, sxb, and_self, and_true, true_and, implies_true, imp_self, bne_eq_false_iff_eq, Nat.zero_add, Nat.le_refl, Int.toNat_natCast, Int.ofNat_lt, Int.natCast_nonneg, decide_eq_true_eq, decide_eq_false_iff_not, bne_iff_ne, ne_eq]; try dsimp only [Kd.T, Kds.T, AK.T, AKs.T])
          rw [hk, callM, if_pos h2, eb, e16, e512, ew2]
          exact ⟨rfl, rfl, rfl, rfl⟩
      · rw [hk, e128] at h2
        refine AM.runTo2 hG 13 100 (by cbv) (by (simp only [sxs, sxb, and_self, and_true, true_and, implies_true, imp_self, bne_eq_false_iff_eq, Nat.zero_add, Nat.le_refl, Int.toNat_natCast, Int.ofNat_lt, Int.natCast_nonneg, decide_eq_true_eq, decide_eq_false_iff_not, bne_iff_ne, ne_eq]; try dsimp only [Kd.T, Kds.T, AK.T, AKs.T])) ?_
        refine AM.imp2 (by cbv) (by cbv) ?_ ?_ (after _ rfl)
        · (simp only [sxs, sxb, and_self, and_true, true_and, implies_true, imp_self, bne_eq_false_iff_eq, Nat.zero_add, Nat.le_refl, Int.toNat_natCast, Int.ofNat_lt, Int.natCast_nonneg, decide_eq_true_eq, decide_eq_false_iff_not, bne_iff_ne, ne_eq]; try dsimp only [Kd.T, Kds.T, AK.T, AKs.T])
          rw [hk]
          exact eb
        · (simp only [sxs, sxb, and_self, and_true, true_and, implies_true, imp_self, bne_eq_false_iff_eq, Nat.zero_add, Nat.le_refl, Int.toNat_natCast, Int.ofNat_lt, Int.natCast_nonneg, decide_eq_true_eq, decide_eq_false_iff_not, bne_iff_ne, ne_eq]; try dsimp only [Kd.T, Kds.T, AK.T, AKs.T])
          rw [hk, callM, if_neg h2, eb, e16, e4, ew1]
          exact ⟨rfl, rfl, rfl, rfl⟩
    rintro c hc
    obtain ⟨c1, c2, c3, c4, c5⟩ := c
    refine AM.run2 hG 100 (by cbv) ?_ ?_
    · (simp only [sxs, sxb, and_self, and_true, true_and, implies_true, imp_self, bne_eq_false_iff_eq, Nat.zero_add, Nat.le_refl, Int.toNat_natCast, Int.ofNat_lt, Int.natCast_nonneg, decide_eq_true_eq, decide_eq_false_iff_not, bne_iff_ne, ne_eq]; try dsimp only [Kd.T, Kds.T, AK.T, AKs.T])
    refine AM.loopI (fun z : Nat × Bool => (frame 124 [(0, .ro I64 fun _ => nums), (1, .int .i64 (.t fun _ => n)), (2, .int .i64 (.t fun _ => now)), (6, .ptr 0 0), (7, .ptr 1 0), (8, .ptr 2 0), (9, .int .i64 (.t fun _ => b)), (10, .int .i64 (.t fun _ => nI i)), (12, .ptr 4 0), (13, .bool (.t fun _ => z.2)), (14, .int .i64 (.t fun _ => nI z.1))],
      [.box 25 [.int .i64 (.l 0), .nils], .box 27 [.int .i64 (.l 0), .int .i64 (.l 0), .int .i64 (.l 0), .int .i64 (.l 0), .int .i64 (.l 0), .int .i64 (.l 0), .int .i64 (.l 0), .int .i64 (.l 0), .int .i64 (.l 0), .nils],
       .box 25 [.int .i64 (.l 20), .sl 3 4 (.l 0) (.t fun _ => l.length)], .row 31 CallK (fun _ => l), .box 31 (cAtF fun _ => (c1, c2, c3, c4, ()))]))
      (fun z => z.1 ≤ l.length ∧ (z.2 || (l.drop z.1).any fun x => sameB x (c1, c2, c3, c4, ())) = hasB l (c1, c2, c3, c4, ())) (fun z => l.length - z.1) (0, false) ⟨by simp, by simp [hasB]⟩ ?_ ?_ ?_
    · cbv; (simp only [sxs, sxb, and_self, and_true, true_and, implies_true, imp_self, bne_eq_false_iff_eq, Nat.zero_add, Nat.le_refl, Int.toNat_natCast, Int.ofNat_lt, Int.natCast_nonneg, decide_eq_true_eq, decide_eq_false_iff_not, bne_iff_ne, ne_eq]; try dsimp only [Kd.T, Kds.T, AK.T, AKs.T]); all_goals ((repeat' apply And.intro) <;> first | rfl | assumption | exact trivial)
    · cbv; (simp only [sxs, sxb, and_self, and_true, true_and, implies_true, imp_self, bne_eq_false_iff_eq, Nat.zero_add, Nat.le_refl, Int.toNat_natCast, Int.ofNat_lt, Int.natCast_nonneg, decide_eq_true_eq, decide_eq_false_iff_not, bne_iff_ne, ne_eq]; try dsimp only [Kd.T, Kds.T, AK.T, AKs.T]); all_goals ((repeat' apply And.intro) <;> first | rfl | assumption | exact trivial)
    · rintro ⟨j, d⟩ ⟨hj, hd⟩ ih2
      simp only at hj hd
      refine AM.run2 hG 100 (by cbv) ?_ ?_
      · (simp only [sxs, sxb, and_self, and_true, true_and, implies_true, imp_self, bne_eq_false_iff_eq, Nat.zero_add, Nat.le_refl, Int.toNat_natCast, Int.ofNat_lt, Int.natCast_nonneg, decide_eq_true_eq, decide_eq_false_iff_not, bne_iff_ne, ne_eq]; try dsimp only [Kd.T, Kds.T, AK.T, AKs.T])
      refine AM.case 62 rfl (fun h3 => ?_) (fun h3 => ?_) <;> (simp only [sxs, sxb, and_self, and_true, true_and, implies_true, imp_self, bne_eq_false_iff_eq, Nat.zero_add, Nat.le_refl, Int.toNat_natCast, Int.ofNat_lt, Int.natCast_nonneg, decide_eq_true_eq, decide_eq_false_iff_not, bne_iff_ne, ne_eq] at h3; try dsimp only [Kd.T, Kds.T, AK.T, AKs.T] at h3)
      · refine AM.run2 hG 100 (by cbv) ?_ ?_
        · (simp only [sxs, sxb, and_self, and_true, true_and, implies_true, imp_self, bne_eq_false_iff_eq, Nat.zero_add, Nat.le_refl, Int.toNat_natCast, Int.ofNat_lt, Int.natCast_nonneg, decide_eq_true_eq, decide_eq_false_iff_not, bne_iff_ne, ne_eq]; try dsimp only [Kd.T, Kds.T, AK.T, AKs.T])
          exact ⟨fun q1 q2 => ⟨q1, q2⟩, fun q1 q2 => ⟨q1, q2⟩, h3⟩
        refine AM.ren hB [0, 1, 2, 3, 4] (by cbv) (by cbv) (by cbv) ?_ ?_ (ih2 (j + 1, d || sameB (l.getD j zc) (c1, c2, c3, c4, ())) ⟨by simp only; omega, by rw [← hd, dropD h3 zc, List.any_cons, Bool.or_assoc]⟩ (by simp only; omega))
        · (simp only [sxs, sxb, and_self, and_true, true_and, implies_true, imp_self, bne_eq_false_iff_eq, Nat.zero_add, Nat.le_refl, Int.toNat_natCast, Int.ofNat_lt, Int.natCast_nonneg, decide_eq_true_eq, decide_eq_false_iff_not, bne_iff_ne, ne_eq]; try dsimp only [Kd.T, Kds.T, AK.T, AKs.T])
          refine ⟨?_, ?_⟩
          · show _ = (d || sameB (l.getD j (0, 0, 0, 0, ())) (c1, c2, c3, c4, ()))
            rw [Bool.eq_iff_iff]
            simp [sameB, eqI]
            grind
          · rw [w64s (by omega)]
        · (simp only [sxs, sxb, and_self, and_true, true_and, implies_true, imp_self, bne_eq_false_iff_eq, Nat.zero_add, Nat.le_refl, Int.toNat_natCast, Int.ofNat_lt, Int.natCast_nonneg, decide_eq_true_eq, decide_eq_false_iff_not, bne_iff_ne, ne_eq]; try dsimp only [Kd.T, Kds.T, AK.T, AKs.T])
      · rw [List.drop_of_length_le (by omega), List.any_nil, Bool.or_false] at hd
        have hnext : (nums.take (i + 1)).foldl stepM (0, []) = (b, if d = true then l else l ++ [callM k b]) := by
          rw [take_succI h, List.foldl_append, hs]
          simp only [List.foldl_cons, List.foldl_nil, stepM]
          rw [hk, hb, ← hc]
          have : l.any (sameB (c1, c2, c3, c4, c5)) = d := by
            rw [hd]
            unfold hasB
            congr 1
            funext x
            simp only [sameB]
            congr 1
            simp only [eq_comm]
          rw [this]
          split <;> rfl
        clear ih2
        refine AM.run2 hG 100 (by cbv) ?_ ?_
        · (simp only [sxs, sxb, and_self, and_true, true_and, implies_true, imp_self, bne_eq_false_iff_eq, Nat.zero_add, Nat.le_refl, Int.toNat_natCast, Int.ofNat_lt, Int.natCast_nonneg, decide_eq_true_eq, decide_eq_false_iff_not, bne_iff_ne, ne_eq]; try dsimp only [Kd.T, Kds.T, AK.T, AKs.T])
        refine AM.case 93 rfl (fun h4 => ?_) (fun h4 => ?_) <;> (simp only [sxs, sxb, and_self, and_true, true_and, implies_true, imp_self, bne_eq_false_iff_eq, Nat.zero_add, Nat.le_refl, Int.toNat_natCast, Int.ofNat_lt, Int.natCast_nonneg, decide_eq_true_eq, decide_eq_false_iff_not, bne_iff_ne, ne_eq] at h4; try dsimp only [Kd.T, Kds.T, AK.T, AKs.T] at h4)
        · refine AM.run2 hG 100 (by cbv) ?_ ?_
          · (simp only [sxs, sxb, and_self, and_true, true_and, implies_true, imp_self, bne_eq_false_iff_eq, Nat.zero_add, Nat.le_refl, Int.toNat_natCast, Int.ofNat_lt, Int.natCast_nonneg, decide_eq_true_eq, decide_eq_false_iff_not, bne_iff_ne, ne_eq]; try dsimp only [Kd.T, Kds.T, AK.T, AKs.T])
            simp only [maxLen, List.length_take, List.length_cons, List.length_nil]
            omega
          refine AM.ren hB [0, 1, 2, 6] (by cbv) (by cbv) (by cbv) ?_ ?_ (ih (i + 1, b, l ++ [(c1, c2, c3, c4, ())]) ⟨by simp only; omega, by simp only; omega, by rw [hnext, if_neg (by rw [h4]; decide), ← hc], by simp only [List.length_append, List.length_cons, List.length_nil]; omega, by simp only; omega, by simp only; omega⟩ (by simp only; omega))
          · (simp only [sxs, sxb, and_self, and_true, true_and, implies_true, imp_self, bne_eq_false_iff_eq, Nat.zero_add, Nat.le_refl, Int.toNat_natCast, Int.ofNat_lt, Int.natCast_nonneg, decide_eq_true_eq, decide_eq_false_iff_not, bne_iff_ne, ne_eq]; try dsimp only [Kd.T, Kds.T, AK.T, AKs.T])
            rw [w64s (by omega)]
          · (simp only [sxs, sxb, and_self, and_true, true_and, implies_true, imp_self, bne_eq_false_iff_eq, Nat.zero_add, Nat.le_refl, Int.toNat_natCast, Int.ofNat_lt, Int.natCast_nonneg, decide_eq_true_eq, decide_eq_false_iff_not, bne_iff_ne, ne_eq]; try dsimp only [Kd.T, Kds.T, AK.T, AKs.T])
            rw [List.length_append]
            exact ⟨rfl, rfl⟩
        · refine AM.run2 hG 100 (by cbv) ?_ ?_
          · (simp only [sxs, sxb, and_self, and_true, true_and, implies_true, imp_self, bne_eq_false_iff_eq, Nat.zero_add, Nat.le_refl, Int.toNat_natCast, Int.ofNat_lt, Int.natCast_nonneg, decide_eq_true_eq, decide_eq_false_iff_not, bne_iff_ne, ne_eq]; try dsimp only [Kd.T, Kds.T, AK.T, AKs.T])
          refine AM.ren hB [0, 1, 2, 3] (by cbv) (by cbv) (by cbv) ?_ ?_ (ih (i + 1, b, l) ⟨by simp only; omega, by simp only; omega, by rw [hnext, if_pos h4], by simp only; omega, by simp only; omega, by simp only; omega⟩ (by simp only; omega))
          · (simp only [sxs, sxb, and_self, and_true, true_and, implies_true, imp_self, bne_eq_false_iff_eq, Nat.zero_add, Nat.le_refl, Int.toNat_natCast, Int.ofNat_lt, Int.natCast_nonneg, decide_eq_true_eq, decide_eq_false_iff_not, bne_iff_ne, ne_eq]; try dsimp only [Kd.T, Kds.T, AK.T, AKs.T])
            rw [w64s (by omega)]
          · (simp only [sxs, sxb, and_self, and_true, true_and, implies_true, imp_self, bne_eq_false_iff_eq, Nat.zero_add, Nat.le_refl, Int.toNat_natCast, Int.ofNat_lt, Int.natCast_nonneg, decide_eq_true_eq, decide_eq_false_iff_not, bne_iff_ne, ne_eq]; try dsimp only [Kd.T, Kds.T, AK.T, AKs.T])
  · replace h : (if ltI (nI i) (nI nums.length) = true then ltI (nI i) 20 else false) = false := h
    rw [ite_and, Bool.and_eq_false_iff] at h
    have hend : madeM nums = (a, l) := by
      rw [madeM, ← hs]
      congr 1
      rcases h with h | h
      · rw [ltI_f] at h
        (simp only [sxs, sxb, and_self, and_true, true_and, implies_true, imp_self, bne_eq_false_iff_eq, Nat.zero_add, Nat.le_refl, Int.toNat_natCast, Int.ofNat_lt, Int.natCast_nonneg, decide_eq_true_eq, decide_eq_false_iff_not, bne_iff_ne, ne_eq] at h; try dsimp only [Kd.T, Kds.T, AK.T, AKs.T] at h)
        rw [List.take_of_length_le (by omega), List.take_of_length_le (by omega)]
      · rw [ltI_f] at h
        (simp only [sxs, sxb, and_self, and_true, true_and, implies_true, imp_self, bne_eq_false_iff_eq, Nat.zero_add, Nat.le_refl, Int.toNat_natCast, Int.ofNat_lt, Int.natCast_nonneg, decide_eq_true_eq, decide_eq_false_iff_not, bne_iff_ne, ne_eq] at h; try dsimp only [Kd.T, Kds.T, AK.T, AKs.T] at h)
        rw [show i = 20 by omega]
    clear ih
    refine AM.frz [3] (by cbv) (by (simp only [sxs, sxb, and_self, and_true, true_and, implies_true, imp_self, bne_eq_false_iff_eq, Nat.zero_add, Nat.le_refl, Int.toNat_natCast, Int.ofNat_lt, Int.natCast_nonneg, decide_eq_true_eq, decide_eq_false_iff_not, bne_iff_ne, ne_eq]; try dsimp only [Kd.T, Kds.T, AK.T, AKs.T])) ?_
    refine AM.run2 hG 100 (by cbv) ?_ ?_
    · (simp only [sxs, sxb, and_self, and_true, true_and, implies_true, imp_self, bne_eq_false_iff_eq, Nat.zero_add, Nat.le_refl, Int.toNat_natCast, Int.ofNat_lt, Int.natCast_nonneg, decide_eq_true_eq, decide_eq_false_iff_not, bne_iff_ne, ne_eq]; try dsimp only [Kd.T, Kds.T, AK.T, AKs.T])
      decide
    refine AM.ret2 hG (by cbv) (by (simp only [sxs, sxb, and_self, and_true, true_and, implies_true, imp_self, bne_eq_false_iff_eq, Nat.zero_add, Nat.le_refl, Int.toNat_natCast, Int.ofNat_lt, Int.natCast_nonneg, decide_eq_true_eq, decide_eq_false_iff_not, bne_iff_ne, ne_eq]; try dsimp only [Kd.T, Kds.T, AK.T, AKs.T])) (hQ _ _ (FinOwn.mk' [] (by cbv) (by cbv) (by cbv) ?_ ?_))
    · (simp only [sxs, sxb, and_self, and_true, true_and, implies_true, imp_self, bne_eq_false_iff_eq, Nat.zero_add, Nat.le_refl, Int.toNat_natCast, Int.ofNat_lt, Int.natCast_nonneg, decide_eq_true_eq, decide_eq_false_iff_not, bne_iff_ne, ne_eq]; try dsimp only [Kd.T, Kds.T, AK.T, AKs.T])
      obtain ⟨k, hk⟩ : ∃ k, modS n 1048576 = k := ⟨_, rfl⟩
      have hk0 := modS_in n (show (0 : Int) < 1048576 by decide)
      have hn := modS_in now (show (0 : Int) < 40 by decide)
      rw [hk] at hk0
      obtain ⟨hk0, hk1⟩ := hk0
      rw [hk, List.take_length, hend, Int.tmod_eq_emod_of_nonneg hk0, w64 (by omega) (by omega), (qr hk0 (by omega) 3 4 (by decide) (by decide)).1, (qr hk0 (by omega) 12 16 (by decide) (by decide)).1, w64 (by omega) (by omega), (qr hk0 (by omega) 192 40 (by decide) (by decide)).1, (qr hk0 (by omega) 8192 8 (by decide) (by decide)).1, w64 (by omega) (by omega)]
      simp [askM, hk]
    · (simp only [sxs, sxb, and_self, and_true, true_and, implies_true, imp_self, bne_eq_false_iff_eq, Nat.zero_add, Nat.le_refl, Int.toNat_natCast, Int.ofNat_lt, Int.natCast_nonneg, decide_eq_true_eq, decide_eq_false_iff_not, bne_iff_ne, ne_eq]; try dsimp only [Kd.T, Kds.T, AK.T, AKs.T])
end Go.Sx.Yteiehkafkcggeaa

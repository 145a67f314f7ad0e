/- Chapter 29: tables and turns made of numbers. -/
import Derived.Test.YtaijdhocmjnopaaV8
import Derived.Test.YtaijdhocmjnopaaSx26
namespace Go.Sx.Ytaijdhocmjnopaa
open Go Go.Sx Go.Proofs
set_option linter.unusedVariables false
set_option linter.unusedSimpArgs false
set_option maxRecDepth 100000

theorem AM.meetM {G : Gl} {κ : Type} (E : κ → List AV × List Blk) (J : κ → Prop) {c : Cfg} {k' : List It} (go : (∀ e, J e → AM G ⟨(E e).1, (E e).2, k'⟩) → AM G c) (after : ∀ e, J e → AM G ⟨(E e).1, (E e).2, k'⟩) : AM G c := go after
theorem take_succI {l : List Int} {i : Nat} (h : i < l.length) : l.take (i + 1) = l.take i ++ [l.getD i 0] := by
  rw [List.take_add_one, List.getElem?_eq_getElem h, List.getD_eq_getElem?_getD, List.getElem?_eq_getElem h]; rfl
def modS (n m : Int) : Int := if m < 1 then 0 else n % m
def S34 : List AV → Option FOut := sigSpec [I64, I64] [I64] (fun x : Int × Int × Unit => (modS x.1 x.2.1, ())) (fun x : Int × Int × Unit => x.2.1 ≤ 4611686018427387904)
theorem fn34 : FnOk Try.prog 34 S34 := by
  refine fn_of (rs := [.tmp 4]) (env [] trivial) Try.func34 (by kernel_rfl) rfl rfl Try.ntmps34 ?_
  rintro ⟨(n : Int), (m : Int), u⟩ hm G hG hQ
  simp only at hm
  refine AM.run2 hG 100 (by cbv) (by (simp only [sxs, sxb, and_self, and_true, true_and, implies_true, imp_self, bne_eq_false_iff_eq, Nat.zero_add, Nat.le_refl, Int.toNat_natCast, Int.ofNat_lt, Int.natCast_nonneg, decide_eq_true_eq, decide_eq_false_iff_not, bne_iff_ne, ne_eq]; try dsimp only [Kd.T, Kds.T, AK.T, AKs.T])) ?_
  refine AM.case 6 rfl (fun h => ?_) (fun h => ?_) <;> (simp only [sxs, sxb, and_self, and_true, true_and, implies_true, imp_self, bne_eq_false_iff_eq, Nat.zero_add, Nat.le_refl, Int.toNat_natCast, Int.ofNat_lt, Int.natCast_nonneg, decide_eq_true_eq, decide_eq_false_iff_not, bne_iff_ne, ne_eq] at h; try dsimp only [Kd.T, Kds.T, AK.T, AKs.T] at h)
  · refine AM.run2 hG 100 (by cbv) (by (simp only [sxs, sxb, and_self, and_true, true_and, implies_true, imp_self, bne_eq_false_iff_eq, Nat.zero_add, Nat.le_refl, Int.toNat_natCast, Int.ofNat_lt, Int.natCast_nonneg, decide_eq_true_eq, decide_eq_false_iff_not, bne_iff_ne, ne_eq]; try dsimp only [Kd.T, Kds.T, AK.T, AKs.T])) ?_
    refine AM.ret2 hG (by cbv) (by (simp only [sxs, sxb, and_self, and_true, true_and, implies_true, imp_self, bne_eq_false_iff_eq, Nat.zero_add, Nat.le_refl, Int.toNat_natCast, Int.ofNat_lt, Int.natCast_nonneg, decide_eq_true_eq, decide_eq_false_iff_not, bne_iff_ne, ne_eq]; try dsimp only [Kd.T, Kds.T, AK.T, AKs.T])) (hQ _ _ (FinRo.of (by cbv) (by cbv) ?_ ?_))
    · (simp only [sxs, sxb, and_self, and_true, true_and, implies_true, imp_self, bne_eq_false_iff_eq, Nat.zero_add, Nat.le_refl, Int.toNat_natCast, Int.ofNat_lt, Int.natCast_nonneg, decide_eq_true_eq, decide_eq_false_iff_not, bne_iff_ne, ne_eq]; try dsimp only [Kd.T, Kds.T, AK.T, AKs.T])
    try (simp only [sxs, sxb, and_self, and_true, true_and, implies_true, imp_self, bne_eq_false_iff_eq, Nat.zero_add, Nat.le_refl, Int.toNat_natCast, Int.ofNat_lt, Int.natCast_nonneg, decide_eq_true_eq, decide_eq_false_iff_not, bne_iff_ne, ne_eq]; try dsimp only [Kd.T, Kds.T, AK.T, AKs.T])
    simp only [modS, if_pos h]
  · refine AM.run2 hG 100 (by cbv) ?_ ?_
    · (simp only [sxs, sxb, and_self, and_true, true_and, implies_true, imp_self, bne_eq_false_iff_eq, Nat.zero_add, Nat.le_refl, Int.toNat_natCast, Int.ofNat_lt, Int.natCast_nonneg, decide_eq_true_eq, decide_eq_false_iff_not, bne_iff_ne, ne_eq]; try dsimp only [Kd.T, Kds.T, AK.T, AKs.T])
      omega
    have h1 := Int.tmod_add_mul_tdiv n m
    refine AM.case 11 rfl (fun g => ?_) (fun g => ?_) <;> (simp only [sxs, sxb, and_self, and_true, true_and, implies_true, imp_self, bne_eq_false_iff_eq, Nat.zero_add, Nat.le_refl, Int.toNat_natCast, Int.ofNat_lt, Int.natCast_nonneg, decide_eq_true_eq, decide_eq_false_iff_not, bne_iff_ne, ne_eq] at g; try dsimp only [Kd.T, Kds.T, AK.T, AKs.T] at g)
    · refine AM.run2 hG 100 (by cbv) (by (simp only [sxs, sxb, and_self, and_true, true_and, implies_true, imp_self, bne_eq_false_iff_eq, Nat.zero_add, Nat.le_refl, Int.toNat_natCast, Int.ofNat_lt, Int.natCast_nonneg, decide_eq_true_eq, decide_eq_false_iff_not, bne_iff_ne, ne_eq]; try dsimp only [Kd.T, Kds.T, AK.T, AKs.T])) ?_
      have h2 : n.tmod m + m = n % m := by
        rcases (show n < 0 ∨ 0 ≤ n by omega) with hn | hn
        · rw [Int.tmod_eq_emod]
          rw [Int.tmod_eq_emod] at g
          simp only [show ¬ 0 ≤ n by omega, false_or] at g ⊢
          split at g
          · have := Int.emod_nonneg n (show m ≠ 0 by omega); omega
          · rename_i hd
            rw [if_neg hd]
            omega
        · rw [Int.tmod_eq_emod_of_nonneg hn] at g
          have := Int.emod_nonneg n (show m ≠ 0 by omega); omega
      have h3 := Int.emod_nonneg n (show m ≠ 0 by omega)
      have h4 := Int.emod_lt_of_pos n (show 0 < m by omega)
      refine AM.ret2 hG (by cbv) (by (simp only [sxs, sxb, and_self, and_true, true_and, implies_true, imp_self, bne_eq_false_iff_eq, Nat.zero_add, Nat.le_refl, Int.toNat_natCast, Int.ofNat_lt, Int.natCast_nonneg, decide_eq_true_eq, decide_eq_false_iff_not, bne_iff_ne, ne_eq]; try dsimp only [Kd.T, Kds.T, AK.T, AKs.T])) (hQ _ _ (FinRo.of (by cbv) (by cbv) ?_ ?_))
      · (simp only [sxs, sxb, and_self, and_true, true_and, implies_true, imp_self, bne_eq_false_iff_eq, Nat.zero_add, Nat.le_refl, Int.toNat_natCast, Int.ofNat_lt, Int.natCast_nonneg, decide_eq_true_eq, decide_eq_false_iff_not, bne_iff_ne, ne_eq]; try dsimp only [Kd.T, Kds.T, AK.T, AKs.T])
      try (simp only [sxs, sxb, and_self, and_true, true_and, implies_true, imp_self, bne_eq_false_iff_eq, Nat.zero_add, Nat.le_refl, Int.toNat_natCast, Int.ofNat_lt, Int.natCast_nonneg, decide_eq_true_eq, decide_eq_false_iff_not, bne_iff_ne, ne_eq]; try dsimp only [Kd.T, Kds.T, AK.T, AKs.T])
      rw [h2, w64 (by omega) (by omega)]
      simp only [modS, if_neg h]
    · refine AM.run2 hG 100 (by cbv) (by (simp only [sxs, sxb, and_self, and_true, true_and, implies_true, imp_self, bne_eq_false_iff_eq, Nat.zero_add, Nat.le_refl, Int.toNat_natCast, Int.ofNat_lt, Int.natCast_nonneg, decide_eq_true_eq, decide_eq_false_iff_not, bne_iff_ne, ne_eq]; try dsimp only [Kd.T, Kds.T, AK.T, AKs.T])) ?_
      refine AM.ret2 hG (by cbv) (by (simp only [sxs, sxb, and_self, and_true, true_and, implies_true, imp_self, bne_eq_false_iff_eq, Nat.zero_add, Nat.le_refl, Int.toNat_natCast, Int.ofNat_lt, Int.natCast_nonneg, decide_eq_true_eq, decide_eq_false_iff_not, bne_iff_ne, ne_eq]; try dsimp only [Kd.T, Kds.T, AK.T, AKs.T])) (hQ _ _ (FinRo.of (by cbv) (by cbv) ?_ ?_))
      · (simp only [sxs, sxb, and_self, and_true, true_and, implies_true, imp_self, bne_eq_false_iff_eq, Nat.zero_add, Nat.le_refl, Int.toNat_natCast, Int.ofNat_lt, Int.natCast_nonneg, decide_eq_true_eq, decide_eq_false_iff_not, bne_iff_ne, ne_eq]; try dsimp only [Kd.T, Kds.T, AK.T, AKs.T])
      try (simp only [sxs, sxb, and_self, and_true, true_and, implies_true, imp_self, bne_eq_false_iff_eq, Nat.zero_add, Nat.le_refl, Int.toNat_natCast, Int.ofNat_lt, Int.natCast_nonneg, decide_eq_true_eq, decide_eq_false_iff_not, bne_iff_ne, ne_eq]; try dsimp only [Kd.T, Kds.T, AK.T, AKs.T])
      simp only [modS, if_neg h]
      rw [Int.tmod_eq_emod] at g ⊢
      have h3 := Int.emod_nonneg n (show m ≠ 0 by omega)
      have h4 := Int.emod_lt_of_pos n (show 0 < m by omega)
      split at g
      · rename_i hd; rw [if_pos hd]; omega
      · omega
theorem qr {k : Int} (h0 : 0 ≤ k) (h1 : k < 1073741824) (m n : Int) (hm : 0 < m) (hm2 : m ≤ 1073741824) : (IntKind.i64.wrap (k.tdiv m)).tmod n = (k / m) % n ∧ IntKind.i64.wrap (k.tdiv m) = k / m := by
  have q0 := Int.ediv_nonneg h0 (Int.le_of_lt hm)
  have q1 := Int.ediv_le_self m h0
  rw [Int.tdiv_eq_ediv_of_nonneg h0, w64 (by omega) (by omega), Int.tmod_eq_emod_of_nonneg q0]
  exact ⟨rfl, rfl⟩
theorem modS_in (n : Int) {m : Int} (h : 0 < m) : 0 ≤ modS n m ∧ modS n m < m := by
  rw [modS, if_neg (by omega)]
  exact ⟨Int.emod_nonneg n (by omega), Int.emod_lt_of_pos n h⟩
def callM (k a : Int) : Call := if (k / 7) % 3 = 2 then (3, (k / 21) % 8, 1 + (k / 168) % 4, a, ()) else (1 + (k / 7) % 3, (k / 21) % 8, 0, a, ())
def stepM (s : Int × List Call) (n : Int) : Int × List Call :=
  let k := modS n 1048576
  let a := s.1 + k % 7
  if s.2.any (sameB (callM k a)) = true then (a, s.2) else (a, s.2 ++ [callM k a])
def madeM (nums : List Int) : Int × List Call := (nums.take 20).foldl stepM (0, [])
def askM (K a : Int) (i : Nat) : Ask := (nI i, (K / 4) / 2 ^ (2 * i) % 4, (K / 4096) % 16, a + (K / 65536) % 20, 1 + (K / 16) % 60, (K / 8) % 3 * 50, 60, nI i, 0, [], ())
def asksM (K a : Int) (m : Nat) : List Ask := (List.range m).map fun i => askM K a (i + 1)
def carsM (K : Int) : Nat := (1 + K % 4).toNat
def tabM (nums : List Int) : Table := (32, (madeM nums).2, ())
def turnM (nums : List Int) (n : Int) : List Ask := asksM (modS n 1073741824) (madeM nums).1 (carsM (modS n 1073741824))
def S10 : List AV → Option FOut := sigSpec [IntsK, I64] [TableK, AsksK] (fun x : List Int × Int × Unit => (tabM x.1, turnM x.1 x.2.1, ())) (fun _ => True)
theorem asksM_len (K a : Int) (m : Nat) : (asksM K a m).length = m := by simp [asksM]
theorem asksM_succ (K a : Int) (m : Nat) : asksM K a (m + 1) = asksM K a m ++ [askM K a (m + 1)] := by
  rw [asksM, asksM, List.range_succ, List.map_append]; rfl
theorem shift9 {i : Nat} (h : i < 8) : min (IntKind.u64.wrap (IntKind.i64.wrap (2 * nI (i + 1)))).toNat IntKind.i64.bits = 2 * (i + 1) := by
  have : ∀ j : Fin 8, min (IntKind.u64.wrap (IntKind.i64.wrap (2 * nI (j.1 + 1)))).toNat IntKind.i64.bits = 2 * (j.1 + 1) := by decide
  exact this ⟨i, h⟩
theorem askM_eq {K a : Int} {i : Nat} (h0 : 0 ≤ K) (h1 : K < 1073741824) (a0 : 0 ≤ a) (a1 : a ≤ 120) (hi : i < 4) : ((nI (i + 1), ((IntKind.i64.wrap (K.tdiv 4)).fdiv (2 ^ min (IntKind.u64.wrap (IntKind.i64.wrap (2 * nI (i + 1)))).toNat IntKind.i64.bits)).tmod 4, (IntKind.i64.wrap (K.tdiv 4096)).tmod 16,
    IntKind.i64.wrap (a + (IntKind.i64.wrap (K.tdiv 65536)).tmod 20), IntKind.i64.wrap (1 + (IntKind.i64.wrap (K.tdiv 16)).tmod 60), IntKind.i64.wrap ((IntKind.i64.wrap (K.tdiv 8)).tmod 3 * 50), 60, nI (i + 1), 0, [], ()) : Ask) = askM K a (i + 1) := by
  have hp : (0 : Int) < 2 ^ (2 * (i + 1)) := Int.pow_pos (by decide)
  have hd := Int.ediv_nonneg (Int.ediv_nonneg h0 (show (0 : Int) ≤ 4 by decide)) (Int.le_of_lt hp)
  rw [shift9 (by omega), (qr h0 h1 4 4 (by decide) (by decide)).2, (qr h0 h1 4096 16 (by decide) (by decide)).1, (qr h0 h1 65536 20 (by decide) (by decide)).1, (qr h0 h1 16 60 (by decide) (by decide)).1, (qr h0 h1 8 3 (by decide) (by decide)).1, w64 (by omega) (by omega), w64 (by omega) (by omega), w64 (by omega) (by omega), Int.fdiv_eq_ediv_of_nonneg _ (Int.le_of_lt hp), Int.tmod_eq_emod_of_nonneg hd]
  rfl
theorem ite_and9 (a b : Bool) : (if a = true then b else false) = (a && b) := by cases a <;> simp
set_option maxHeartbeats 8000000 in
theorem fn10 : FnOk Try.prog 10 S10 := by
  refine fn_ofB (rs := [.cell 4 25, .tmp 5]) (env [(34, S34), (38, S38), (39, S39)] ⟨fn34, fn38, fn39, trivial⟩) Try.func10 (by kernel_rfl) rfl rfl Try.ntmps10 ?_
  rintro ⟨(nums : List Int), (n : Int), u2⟩ _ G hG hB hQ
  have hB := GB.of hB
  refine AM.run2 hG 100 (by cbv) ?_ ?_
  · (simp only [sxs, sxb, and_self, and_true, true_and, implies_true, imp_self, bne_eq_false_iff_eq, Nat.zero_add, Nat.le_refl, Int.toNat_natCast, Int.ofNat_lt, Int.natCast_nonneg, decide_eq_true_eq, decide_eq_false_iff_not, bne_iff_ne, ne_eq]; try dsimp only [Kd.T, Kds.T, AK.T, AKs.T])
  refine AM.emptyRow 1 1 38 CallK rfl (by decide) rfl ?_
  refine AM.loopI (fun z : Nat × Int × List Call => (frame 118 [(0, .ro I64 fun _ => nums), (1, .int .i64 (.t fun _ => n)), (4, .ptr 0 0), (5, .nils), (6, .ptr 1 0), (7, .int .i64 (.t fun _ => z.2.1)), (8, .int .i64 (.t fun _ => nI z.1))],
    [.box 25 [.int .i64 (.l 0), .nils], .box 25 [.int .i64 (.l 32), .sl 2 4 (.l 0) (.t fun _ => z.2.2.length)], .row 38 CallK (fun _ => z.2.2)]))
    (fun z => z.1 ≤ nums.length ∧ z.1 ≤ 20 ∧ (nums.take z.1).foldl stepM (0, []) = (z.2.1, z.2.2) ∧ z.2.2.length ≤ z.1 ∧ 0 ≤ z.2.1 ∧ z.2.1 ≤ 6 * z.1) (fun z => nums.length - z.1) (0, 0, []) ⟨by simp, by simp, rfl, by simp, by simp, by simp⟩ ?_ ?_ ?_
  · cbv; (simp only [sxs, sxb, and_self, and_true, true_and, implies_true, imp_self, bne_eq_false_iff_eq, Nat.zero_add, Nat.le_refl, Int.toNat_natCast, Int.ofNat_lt, Int.natCast_nonneg, decide_eq_true_eq, decide_eq_false_iff_not, bne_iff_ne, ne_eq]; try dsimp only [Kd.T, Kds.T, AK.T, AKs.T]); all_goals ((repeat' apply And.intro) <;> first | rfl | assumption | exact trivial)
  · cbv; (simp only [sxs, sxb, and_self, and_true, true_and, implies_true, imp_self, bne_eq_false_iff_eq, Nat.zero_add, Nat.le_refl, Int.toNat_natCast, Int.ofNat_lt, Int.natCast_nonneg, decide_eq_true_eq, decide_eq_false_iff_not, bne_iff_ne, ne_eq]; try dsimp only [Kd.T, Kds.T, AK.T, AKs.T]); all_goals ((repeat' apply And.intro) <;> first | rfl | assumption | exact trivial)
  rintro ⟨i, a, l⟩ ⟨hi, hi20, hs, hli, ha, ha4⟩ ih
  simp only at hi hi20 hs hli ha ha4
  refine AM.run2 hG 100 (by cbv) ?_ ?_
  · (simp only [sxs, sxb, and_self, and_true, true_and, implies_true, imp_self, bne_eq_false_iff_eq, Nat.zero_add, Nat.le_refl, Int.toNat_natCast, Int.ofNat_lt, Int.natCast_nonneg, decide_eq_true_eq, decide_eq_false_iff_not, bne_iff_ne, ne_eq]; try dsimp only [Kd.T, Kds.T, AK.T, AKs.T])
  refine AM.case 24 rfl (fun h => ?_) (fun h => ?_)
  · replace h : (if ltI (nI i) (nI nums.length) = true then ltI (nI i) 20 else false) = true := h
    rw [ite_and9, Bool.and_eq_true, ltI_t, ltI_t] at h
    obtain ⟨h, h20⟩ := h
    (simp only [sxs, sxb, and_self, and_true, true_and, implies_true, imp_self, bne_eq_false_iff_eq, Nat.zero_add, Nat.le_refl, Int.toNat_natCast, Int.ofNat_lt, Int.natCast_nonneg, decide_eq_true_eq, decide_eq_false_iff_not, bne_iff_ne, ne_eq] at h h20; try dsimp only [Kd.T, Kds.T, AK.T, AKs.T] at h h20)
    refine AM.run2 hG 100 (by cbv) ?_ ?_
    · (simp only [sxs, sxb, and_self, and_true, true_and, implies_true, imp_self, bne_eq_false_iff_eq, Nat.zero_add, Nat.le_refl, Int.toNat_natCast, Int.ofNat_lt, Int.natCast_nonneg, decide_eq_true_eq, decide_eq_false_iff_not, bne_iff_ne, ne_eq]; try dsimp only [Kd.T, Kds.T, AK.T, AKs.T])
      exact ⟨by decide, by decide, by decide, by decide, by decide, by decide, h⟩
    obtain ⟨k, hk⟩ : ∃ k, modS (nums.getD i 0) 1048576 = k := ⟨_, rfl⟩
    have hk0 := modS_in (nums.getD i 0) (show (0 : Int) < 1048576 by decide)
    rw [hk] at hk0
    obtain ⟨hk0, hk1⟩ := hk0
    have ek : k.tmod 7 = k % 7 := Int.tmod_eq_emod_of_nonneg hk0
    obtain ⟨b, hb⟩ : ∃ b, a + k % 7 = b := ⟨_, rfl⟩
    have eb : IntKind.i64.wrap (a + k.tmod 7) = b := by rw [ek, w64 (by omega) (by omega), hb]
    have e4 := (qr hk0 (by omega) 7 3 (by decide) (by decide)).1
    have e16 := (qr hk0 (by omega) 21 8 (by decide) (by decide)).1
    have e128 := (qr hk0 (by omega) 168 4 (by decide) (by decide)).1
    have ew1 : IntKind.i64.wrap (1 + (k / 7) % 3) = 1 + (k / 7) % 3 := w64 (by omega) (by omega)
    have ew2 : IntKind.i64.wrap (1 + (k / 168) % 4) = 1 + (k / 168) % 4 := w64 (by omega) (by omega)
    refine' AM.meetM (fun c : Call => (frame 118 [(0, .ro I64 fun _ => nums), (1, .int .i64 (.t fun _ => n)), (4, .ptr 0 0), (5, .nils), (6, .ptr 1 0), (7, .int .i64 (.t fun _ => b)), (8, .int .i64 (.t fun _ => nI i)), (10, .ptr 3 0)],
      [.box 25 [.int .i64 (.l 0), .nils], .box 25 [.int .i64 (.l 32), .sl 2 4 (.l 0) (.t fun _ => l.length)], .row 38 CallK (fun _ => l), .box 38 (cAtF fun _ => c)])) (fun c => c = callM k b) ?_ ?_
    rotate_left 1
    · intro after
      refine AM.case 47 rfl (fun h2 => ?_) (fun h2 => ?_) <;> (simp only [sxs, sxb, and_self, and_true, true_and, implies_true, imp_self, bne_eq_false_iff_eq, Nat.zero_add, Nat.le_refl, Int.toNat_natCast, Int.ofNat_lt, Int.natCast_nonneg, decide_eq_true_eq, decide_eq_false_iff_not, bne_iff_ne, ne_eq] at h2; try dsimp only [Kd.T, Kds.T, AK.T, AKs.T] at h2)
      · rw [hk, e4, ew1] at h2
        refine AM.runTo2 hG 11 100 (by cbv) (by (simp only [sxs, sxb, and_self, and_true, true_and, implies_true, imp_self, bne_eq_false_iff_eq, Nat.zero_add, Nat.le_refl, Int.toNat_natCast, Int.ofNat_lt, Int.natCast_nonneg, decide_eq_true_eq, decide_eq_false_iff_not, bne_iff_ne, ne_eq]; try dsimp only [Kd.T, Kds.T, AK.T, AKs.T]); decide) ?_
        refine AM.imp2 (by cbv) (by cbv) ?_ ?_ (after _ rfl)
        · (simp only [sxs, sxb, and_self, and_true, true_and, implies_true, imp_self, bne_eq_false_iff_eq, Nat.zero_add, Nat.le_refl, Int.toNat_natCast, Int.ofNat_lt, Int.natCast_nonneg, decide_eq_true_eq, decide_eq_false_iff_not, bne_iff_ne, ne_eq]; try dsimp only [Kd.T, Kds.T, AK.T, AKs.T])
          rw [hk]
          exact eb
        · (simp only [sxs, sxb, and_self, and_true, true_and, implies_true, imp_self, bne_eq_false_iff_eq, Nat.zero_add, Nat.le_refl, Int.toNat_natCast, Int.ofNat_lt, Int.natCast_nonneg, decide_eq_true_eq, decide_eq_false_iff_not, bne_iff_ne, ne_eq]; try dsimp only [Kd.T, Kds.T, AK.T, AKs.T])
          rw [hk, callM, if_pos (by omega), eb, e16, e128, ew2]
          exact ⟨by rw [e4, ew1]; exact h2, rfl, rfl, rfl⟩
      · rw [hk, e4, ew1] at h2
        refine AM.runTo2 hG 11 100 (by cbv) (by (simp only [sxs, sxb, and_self, and_true, true_and, implies_true, imp_self, bne_eq_false_iff_eq, Nat.zero_add, Nat.le_refl, Int.toNat_natCast, Int.ofNat_lt, Int.natCast_nonneg, decide_eq_true_eq, decide_eq_false_iff_not, bne_iff_ne, ne_eq]; try dsimp only [Kd.T, Kds.T, AK.T, AKs.T])) ?_
        refine AM.imp2 (by cbv) (by cbv) ?_ ?_ (after _ rfl)
        · (simp only [sxs, sxb, and_self, and_true, true_and, implies_true, imp_self, bne_eq_false_iff_eq, Nat.zero_add, Nat.le_refl, Int.toNat_natCast, Int.ofNat_lt, Int.natCast_nonneg, decide_eq_true_eq, decide_eq_false_iff_not, bne_iff_ne, ne_eq]; try dsimp only [Kd.T, Kds.T, AK.T, AKs.T])
          rw [hk]
          exact eb
        · (simp only [sxs, sxb, and_self, and_true, true_and, implies_true, imp_self, bne_eq_false_iff_eq, Nat.zero_add, Nat.le_refl, Int.toNat_natCast, Int.ofNat_lt, Int.natCast_nonneg, decide_eq_true_eq, decide_eq_false_iff_not, bne_iff_ne, ne_eq]; try dsimp only [Kd.T, Kds.T, AK.T, AKs.T])
          rw [hk, callM, if_neg (by omega), eb, e16, e4, ew1]
          exact ⟨rfl, rfl, rfl, rfl⟩
    rintro c hc
    obtain ⟨c1, c2, c3, c4, c5⟩ := c
    refine AM.run2 hG 100 (by cbv) ?_ ?_
    · (simp only [sxs, sxb, and_self, and_true, true_and, implies_true, imp_self, bne_eq_false_iff_eq, Nat.zero_add, Nat.le_refl, Int.toNat_natCast, Int.ofNat_lt, Int.natCast_nonneg, decide_eq_true_eq, decide_eq_false_iff_not, bne_iff_ne, ne_eq]; try dsimp only [Kd.T, Kds.T, AK.T, AKs.T])
    refine AM.loopI (fun z : Nat × Bool => (frame 118 [(0, .ro I64 fun _ => nums), (1, .int .i64 (.t fun _ => n)), (4, .ptr 0 0), (5, .nils), (6, .ptr 1 0), (7, .int .i64 (.t fun _ => b)), (8, .int .i64 (.t fun _ => nI i)), (10, .ptr 3 0), (11, .bool (.t fun _ => z.2)), (12, .int .i64 (.t fun _ => nI z.1))],
      [.box 25 [.int .i64 (.l 0), .nils], .box 25 [.int .i64 (.l 32), .sl 2 4 (.l 0) (.t fun _ => l.length)], .row 38 CallK (fun _ => l), .box 38 (cAtF fun _ => (c1, c2, c3, c4, ()))]))
      (fun z => z.1 ≤ l.length ∧ (z.2 || (l.drop z.1).any fun x => sameB x (c1, c2, c3, c4, ())) = hasB l (c1, c2, c3, c4, ())) (fun z => l.length - z.1) (0, false) ⟨by simp, by simp [hasB]⟩ ?_ ?_ ?_
    · cbv; (simp only [sxs, sxb, and_self, and_true, true_and, implies_true, imp_self, bne_eq_false_iff_eq, Nat.zero_add, Nat.le_refl, Int.toNat_natCast, Int.ofNat_lt, Int.natCast_nonneg, decide_eq_true_eq, decide_eq_false_iff_not, bne_iff_ne, ne_eq]; try dsimp only [Kd.T, Kds.T, AK.T, AKs.T]); all_goals ((repeat' apply And.intro) <;> first | rfl | assumption | exact trivial)
    · cbv; (simp only [sxs, sxb, and_self, and_true, true_and, implies_true, imp_self, bne_eq_false_iff_eq, Nat.zero_add, Nat.le_refl, Int.toNat_natCast, Int.ofNat_lt, Int.natCast_nonneg, decide_eq_true_eq, decide_eq_false_iff_not, bne_iff_ne, ne_eq]; try dsimp only [Kd.T, Kds.T, AK.T, AKs.T]); all_goals ((repeat' apply And.intro) <;> first | rfl | assumption | exact trivial)
    · rintro ⟨j, d⟩ ⟨hj, hd⟩ ih2
      simp only at hj hd
      refine AM.run2 hG 100 (by cbv) ?_ ?_
      · (simp only [sxs, sxb, and_self, and_true, true_and, implies_true, imp_self, bne_eq_false_iff_eq, Nat.zero_add, Nat.le_refl, Int.toNat_natCast, Int.ofNat_lt, Int.natCast_nonneg, decide_eq_true_eq, decide_eq_false_iff_not, bne_iff_ne, ne_eq]; try dsimp only [Kd.T, Kds.T, AK.T, AKs.T])
      refine AM.case 57 rfl (fun h3 => ?_) (fun h3 => ?_) <;> (simp only [sxs, sxb, and_self, and_true, true_and, implies_true, imp_self, bne_eq_false_iff_eq, Nat.zero_add, Nat.le_refl, Int.toNat_natCast, Int.ofNat_lt, Int.natCast_nonneg, decide_eq_true_eq, decide_eq_false_iff_not, bne_iff_ne, ne_eq] at h3; try dsimp only [Kd.T, Kds.T, AK.T, AKs.T] at h3)
      · refine AM.run2 hG 100 (by cbv) ?_ ?_
        · (simp only [sxs, sxb, and_self, and_true, true_and, implies_true, imp_self, bne_eq_false_iff_eq, Nat.zero_add, Nat.le_refl, Int.toNat_natCast, Int.ofNat_lt, Int.natCast_nonneg, decide_eq_true_eq, decide_eq_false_iff_not, bne_iff_ne, ne_eq]; try dsimp only [Kd.T, Kds.T, AK.T, AKs.T])
          all_goals ((repeat' first | apply And.intro | intro _) <;> first | exact h3 | assumption)
        refine AM.ren hB [0, 1, 2, 3] (by cbv) (by cbv) (by cbv) ?_ ?_ (ih2 (j + 1, d || sameB (l.getD j zc) (c1, c2, c3, c4, ())) ⟨by simp only; omega, by rw [← hd, dropD h3 zc, List.any_cons, Bool.or_assoc]⟩ (by simp only; omega))
        · (simp only [sxs, sxb, and_self, and_true, true_and, implies_true, imp_self, bne_eq_false_iff_eq, Nat.zero_add, Nat.le_refl, Int.toNat_natCast, Int.ofNat_lt, Int.natCast_nonneg, decide_eq_true_eq, decide_eq_false_iff_not, bne_iff_ne, ne_eq]; try dsimp only [Kd.T, Kds.T, AK.T, AKs.T])
          refine ⟨?_, ?_⟩
          · show _ = (d || sameB (l.getD j (0, 0, 0, 0, ())) (c1, c2, c3, c4, ()))
            rw [Bool.eq_iff_iff]
            simp [sameB, eqI]
          · rw [w64s (by omega)]
        · (simp only [sxs, sxb, and_self, and_true, true_and, implies_true, imp_self, bne_eq_false_iff_eq, Nat.zero_add, Nat.le_refl, Int.toNat_natCast, Int.ofNat_lt, Int.natCast_nonneg, decide_eq_true_eq, decide_eq_false_iff_not, bne_iff_ne, ne_eq]; try dsimp only [Kd.T, Kds.T, AK.T, AKs.T])
      · rw [List.drop_of_length_le (by omega), List.any_nil, Bool.or_false] at hd
        have hnext : (nums.take (i + 1)).foldl stepM (0, []) = (b, if d = true then l else l ++ [callM k b]) := by
          rw [take_succI h, List.foldl_append, hs]
          simp only [List.foldl_cons, List.foldl_nil, stepM]
          rw [hk, hb, ← hc]
          have : l.any (sameB (c1, c2, c3, c4, c5)) = d := by
            rw [hd]
            unfold hasB
            congr 1
            funext x
            simp only [sameB]
            congr 1
            simp only [eq_comm]
          rw [this]
          split <;> rfl
        clear ih2
        refine AM.run2 hG 100 (by cbv) ?_ ?_
        · (simp only [sxs, sxb, and_self, and_true, true_and, implies_true, imp_self, bne_eq_false_iff_eq, Nat.zero_add, Nat.le_refl, Int.toNat_natCast, Int.ofNat_lt, Int.natCast_nonneg, decide_eq_true_eq, decide_eq_false_iff_not, bne_iff_ne, ne_eq]; try dsimp only [Kd.T, Kds.T, AK.T, AKs.T])
        refine AM.case 71 rfl (fun h4 => ?_) (fun h4 => ?_) <;> (simp only [sxs, sxb, and_self, and_true, true_and, implies_true, imp_self, bne_eq_false_iff_eq, Nat.zero_add, Nat.le_refl, Int.toNat_natCast, Int.ofNat_lt, Int.natCast_nonneg, decide_eq_true_eq, decide_eq_false_iff_not, bne_iff_ne, ne_eq] at h4; try dsimp only [Kd.T, Kds.T, AK.T, AKs.T] at h4)
        · refine AM.run2 hG 100 (by cbv) ?_ ?_
          · (simp only [sxs, sxb, and_self, and_true, true_and, implies_true, imp_self, bne_eq_false_iff_eq, Nat.zero_add, Nat.le_refl, Int.toNat_natCast, Int.ofNat_lt, Int.natCast_nonneg, decide_eq_true_eq, decide_eq_false_iff_not, bne_iff_ne, ne_eq]; try dsimp only [Kd.T, Kds.T, AK.T, AKs.T])
            simp only [maxLen, List.length_take, List.length_cons, List.length_nil]
            omega
          refine AM.ren hB [0, 1, 5] (by cbv) (by cbv) (by cbv) ?_ ?_ (ih (i + 1, b, l ++ [(c1, c2, c3, c4, ())]) ⟨by simp only; omega, by simp only; omega, by rw [hnext, if_neg (by rw [h4]; decide), ← hc], by simp only [List.length_append, List.length_cons, List.length_nil]; omega, by simp only; omega, by simp only; omega⟩ (by simp only; omega))
          · (simp only [sxs, sxb, and_self, and_true, true_and, implies_true, imp_self, bne_eq_false_iff_eq, Nat.zero_add, Nat.le_refl, Int.toNat_natCast, Int.ofNat_lt, Int.natCast_nonneg, decide_eq_true_eq, decide_eq_false_iff_not, bne_iff_ne, ne_eq]; try dsimp only [Kd.T, Kds.T, AK.T, AKs.T])
            rw [w64s (by omega)]
          · (simp only [sxs, sxb, and_self, and_true, true_and, implies_true, imp_self, bne_eq_false_iff_eq, Nat.zero_add, Nat.le_refl, Int.toNat_natCast, Int.ofNat_lt, Int.natCast_nonneg, decide_eq_true_eq, decide_eq_false_iff_not, bne_iff_ne, ne_eq]; try dsimp only [Kd.T, Kds.T, AK.T, AKs.T])
            rw [List.length_append]
            exact ⟨rfl, rfl⟩
        · refine AM.run2 hG 100 (by cbv) ?_ ?_
          · (simp only [sxs, sxb, and_self, and_true, true_and, implies_true, imp_self, bne_eq_false_iff_eq, Nat.zero_add, Nat.le_refl, Int.toNat_natCast, Int.ofNat_lt, Int.natCast_nonneg, decide_eq_true_eq, decide_eq_false_iff_not, bne_iff_ne, ne_eq]; try dsimp only [Kd.T, Kds.T, AK.T, AKs.T])
          refine AM.ren hB [0, 1, 2] (by cbv) (by cbv) (by cbv) ?_ ?_ (ih (i + 1, b, l) ⟨by simp only; omega, by simp only; omega, by rw [hnext, if_pos h4], by simp only; omega, by simp only; omega, by simp only; omega⟩ (by simp only; omega))
          · (simp only [sxs, sxb, and_self, and_true, true_and, implies_true, imp_self, bne_eq_false_iff_eq, Nat.zero_add, Nat.le_refl, Int.toNat_natCast, Int.ofNat_lt, Int.natCast_nonneg, decide_eq_true_eq, decide_eq_false_iff_not, bne_iff_ne, ne_eq]; try dsimp only [Kd.T, Kds.T, AK.T, AKs.T])
            rw [w64s (by omega)]
          · (simp only [sxs, sxb, and_self, and_true, true_and, implies_true, imp_self, bne_eq_false_iff_eq, Nat.zero_add, Nat.le_refl, Int.toNat_natCast, Int.ofNat_lt, Int.natCast_nonneg, decide_eq_true_eq, decide_eq_false_iff_not, bne_iff_ne, ne_eq]; try dsimp only [Kd.T, Kds.T, AK.T, AKs.T])
  replace h : (if ltI (nI i) (nI nums.length) = true then ltI (nI i) 20 else false) = false := h
  rw [ite_and9, Bool.and_eq_false_iff] at h
  have hend : madeM nums = (a, l) := by
    rw [madeM, ← hs]
    congr 1
    rcases h with h | h
    · rw [ltI_f] at h
      (simp only [sxs, sxb, and_self, and_true, true_and, implies_true, imp_self, bne_eq_false_iff_eq, Nat.zero_add, Nat.le_refl, Int.toNat_natCast, Int.ofNat_lt, Int.natCast_nonneg, decide_eq_true_eq, decide_eq_false_iff_not, bne_iff_ne, ne_eq] at h; try dsimp only [Kd.T, Kds.T, AK.T, AKs.T] at h)
      rw [List.take_of_length_le (by omega), List.take_of_length_le (by omega)]
    · rw [ltI_f] at h
      (simp only [sxs, sxb, and_self, and_true, true_and, implies_true, imp_self, bne_eq_false_iff_eq, Nat.zero_add, Nat.le_refl, Int.toNat_natCast, Int.ofNat_lt, Int.natCast_nonneg, decide_eq_true_eq, decide_eq_false_iff_not, bne_iff_ne, ne_eq] at h; try dsimp only [Kd.T, Kds.T, AK.T, AKs.T] at h)
      rw [show i = 20 by omega]
  clear ih
  refine AM.frz [2] (by cbv) (by (simp only [sxs, sxb, and_self, and_true, true_and, implies_true, imp_self, bne_eq_false_iff_eq, Nat.zero_add, Nat.le_refl, Int.toNat_natCast, Int.ofNat_lt, Int.natCast_nonneg, decide_eq_true_eq, decide_eq_false_iff_not, bne_iff_ne, ne_eq]; try dsimp only [Kd.T, Kds.T, AK.T, AKs.T])) ?_
  refine AM.run2 hG 100 (by cbv) ?_ ?_
  · (simp only [sxs, sxb, and_self, and_true, true_and, implies_true, imp_self, bne_eq_false_iff_eq, Nat.zero_add, Nat.le_refl, Int.toNat_natCast, Int.ofNat_lt, Int.natCast_nonneg, decide_eq_true_eq, decide_eq_false_iff_not, bne_iff_ne, ne_eq]; try dsimp only [Kd.T, Kds.T, AK.T, AKs.T])
    decide
  obtain ⟨K, hK⟩ : ∃ K, modS n 1073741824 = K := ⟨_, rfl⟩
  have hK0 := modS_in n (show (0 : Int) < 1073741824 by decide)
  rw [hK] at hK0
  obtain ⟨hK0, hK1⟩ := hK0
  obtain ⟨m, hm⟩ : ∃ m, carsM K = m := ⟨_, rfl⟩
  have hm4 : (1 + K % 4) = ((m : Nat) : Int) := by rw [← hm, carsM]; omega
  have hm1 : 1 ≤ m ∧ m ≤ 4 := by omega
  have hKm : K.tmod 4 = K % 4 := Int.tmod_eq_emod_of_nonneg hK0
  refine AM.emptySlot 14 42 AskK rfl ?_
  refine AM.loopI (fun i : Nat => (frame 118 [(4, .ptr 0 0), (6, .ptr 1 0), (7, .int .i64 (.t fun _ => a)), (13, .int .i64 (.t fun _ => K)), (14, .sl 3 10 (.l 0) (.t fun _ => i)), (15, .int .i64 (.t fun _ => nI (i + 1)))],
    [.box 25 [.int .i64 (.l 0), .nils], .box 25 [.int .i64 (.l 32), .ro CallK fun _ => l], .dead, .row 42 AskK (fun _ => asksM K a i)]))
    (fun i => i ≤ m) (fun i => m - i) 0 (Nat.zero_le _) ?_ ?_ ?_
  · cbv; (simp only [sxs, sxb, and_self, and_true, true_and, implies_true, imp_self, bne_eq_false_iff_eq, Nat.zero_add, Nat.le_refl, Int.toNat_natCast, Int.ofNat_lt, Int.natCast_nonneg, decide_eq_true_eq, decide_eq_false_iff_not, bne_iff_ne, ne_eq]; try dsimp only [Kd.T, Kds.T, AK.T, AKs.T])
    exact ⟨hK, rfl⟩
  · cbv; (simp only [sxs, sxb, and_self, and_true, true_and, implies_true, imp_self, bne_eq_false_iff_eq, Nat.zero_add, Nat.le_refl, Int.toNat_natCast, Int.ofNat_lt, Int.natCast_nonneg, decide_eq_true_eq, decide_eq_false_iff_not, bne_iff_ne, ne_eq]; try dsimp only [Kd.T, Kds.T, AK.T, AKs.T])
    exact ⟨List.take_length, rfl⟩
  rintro i hi ih
  have hwm : IntKind.i64.wrap (1 + K.tmod 4) = ((m : Nat) : Int) := by rw [hKm, w64 (by omega) (by omega), hm4]
  refine AM.run2 hG 100 (by cbv) ?_ ?_
  · (simp only [sxs, sxb, and_self, and_true, true_and, implies_true, imp_self, bne_eq_false_iff_eq, Nat.zero_add, Nat.le_refl, Int.toNat_natCast, Int.ofNat_lt, Int.natCast_nonneg, decide_eq_true_eq, decide_eq_false_iff_not, bne_iff_ne, ne_eq]; try dsimp only [Kd.T, Kds.T, AK.T, AKs.T])
    decide
  refine AM.case 84 rfl (fun h6 => ?_) (fun h6 => ?_) <;> (simp only [sxs, sxb, and_self, and_true, true_and, implies_true, imp_self, bne_eq_false_iff_eq, Nat.zero_add, Nat.le_refl, Int.toNat_natCast, Int.ofNat_lt, Int.natCast_nonneg, decide_eq_true_eq, decide_eq_false_iff_not, bne_iff_ne, ne_eq] at h6; try dsimp only [Kd.T, Kds.T, AK.T, AKs.T] at h6)
  · rw [hwm] at h6
    have hrow := askM_eq (i := i) hK0 hK1 ha (by omega) (by omega)
    have h2i : 0 ≤ IntKind.u64.wrap (IntKind.i64.wrap (2 * nI (i + 1))) := by rw [IntKind.wrap]; exact Int.emod_nonneg _ (by decide)
    refine AM.run2 hG 100 (by cbv) ?_ ?_
    · (simp only [sxs, sxb, and_self, and_true, true_and, implies_true, imp_self, bne_eq_false_iff_eq, Nat.zero_add, Nat.le_refl, Int.toNat_natCast, Int.ofNat_lt, Int.natCast_nonneg, decide_eq_true_eq, decide_eq_false_iff_not, bne_iff_ne, ne_eq]; try dsimp only [Kd.T, Kds.T, AK.T, AKs.T])
      simp only [maxLen, asksM_len, List.length_take, List.length_cons, List.length_nil]
      exact ⟨⟨trivial, by omega, by omega⟩, by decide, by decide, by decide, by decide, by decide, by decide, by decide, by decide, by decide, h2i, by decide⟩
    refine AM.ren hB [0, 1, 2, 5] (by cbv) (by cbv) (by cbv) ?_ ?_ (ih (i + 1) (by omega) (by omega))
    · (simp only [sxs, sxb, and_self, and_true, true_and, implies_true, imp_self, bne_eq_false_iff_eq, Nat.zero_add, Nat.le_refl, Int.toNat_natCast, Int.ofNat_lt, Int.natCast_nonneg, decide_eq_true_eq, decide_eq_false_iff_not, bne_iff_ne, ne_eq]; try dsimp only [Kd.T, Kds.T, AK.T, AKs.T])
      simp only [asksM_len, List.length_take, List.length_cons, List.length_nil]
      rw [w64s (by omega)]
      exact ⟨rfl, rfl⟩
    · (simp only [sxs, sxb, and_self, and_true, true_and, implies_true, imp_self, bne_eq_false_iff_eq, Nat.zero_add, Nat.le_refl, Int.toNat_natCast, Int.ofNat_lt, Int.natCast_nonneg, decide_eq_true_eq, decide_eq_false_iff_not, bne_iff_ne, ne_eq]; try dsimp only [Kd.T, Kds.T, AK.T, AKs.T])
      rw [asksM_succ, ← hrow]
      rfl
  clear ih
  rw [hwm] at h6
  obtain rfl : i = m := by omega
  refine AM.frz [3] (by cbv) (by (simp only [sxs, sxb, and_self, and_true, true_and, implies_true, imp_self, bne_eq_false_iff_eq, Nat.zero_add, Nat.le_refl, Int.toNat_natCast, Int.ofNat_lt, Int.natCast_nonneg, decide_eq_true_eq, decide_eq_false_iff_not, bne_iff_ne, ne_eq]; try dsimp only [Kd.T, Kds.T, AK.T, AKs.T]); rw [asksM_len]; exact Nat.le_refl _) ?_
  refine AM.run2 hG 100 (by cbv) ?_ ?_
  · (simp only [sxs, sxb, and_self, and_true, true_and, implies_true, imp_self, bne_eq_false_iff_eq, Nat.zero_add, Nat.le_refl, Int.toNat_natCast, Int.ofNat_lt, Int.natCast_nonneg, decide_eq_true_eq, decide_eq_false_iff_not, bne_iff_ne, ne_eq]; try dsimp only [Kd.T, Kds.T, AK.T, AKs.T])
  refine AM.ret2 hG (by cbv) (by (simp only [sxs, sxb, and_self, and_true, true_and, implies_true, imp_self, bne_eq_false_iff_eq, Nat.zero_add, Nat.le_refl, Int.toNat_natCast, Int.ofNat_lt, Int.natCast_nonneg, decide_eq_true_eq, decide_eq_false_iff_not, bne_iff_ne, ne_eq]; try dsimp only [Kd.T, Kds.T, AK.T, AKs.T])) (hQ _ _ (FinRo.of (by cbv) (by cbv) ?_ ?_))
  · (simp only [sxs, sxb, and_self, and_true, true_and, implies_true, imp_self, bne_eq_false_iff_eq, Nat.zero_add, Nat.le_refl, Int.toNat_natCast, Int.ofNat_lt, Int.natCast_nonneg, decide_eq_true_eq, decide_eq_false_iff_not, bne_iff_ne, ne_eq]; try dsimp only [Kd.T, Kds.T, AK.T, AKs.T])
  try (simp only [sxs, sxb, and_self, and_true, true_and, implies_true, imp_self, bne_eq_false_iff_eq, Nat.zero_add, Nat.le_refl, Int.toNat_natCast, Int.ofNat_lt, Int.natCast_nonneg, decide_eq_true_eq, decide_eq_false_iff_not, bne_iff_ne, ne_eq]; try dsimp only [Kd.T, Kds.T, AK.T, AKs.T])
  rw [tabM, turnM, hend, hK, hm, List.take_of_length_le (by rw [asksM_len]; exact Nat.le_refl _)]
  exact ⟨⟨rfl, rfl⟩, rfl⟩
end Go.Sx.Ytaijdhocmjnopaa

/- V9 V10 V12, joined. -/
import Derived.Test.YtaijdhocmjnopaaV8
import Derived.Test.YtaijdhocmjnopaaSx26
namespace Go.Sx.Ytaijdhocmjnopaa
open Go Go.Sx Go.Proofs
set_option linter.unusedVariables false
set_option linter.unusedSimpArgs false
set_option maxRecDepth 100000

theorem AM.meetM {G : Gl} {κ : Type} (E : κ → List AV × List Blk) (J : κ → Prop) {c : Cfg} {k' : List It} (go : (∀ e, J e → AM G ⟨(E e).1, (E e).2, k'⟩) → AM G c) (after : ∀ e, J e → AM G ⟨(E e).1, (E e).2, k'⟩) : AM G c := go after
theorem take_succI {l : List Int} {i : Nat} (h : i < l.length) : l.take (i + 1) = l.take i ++ [l.getD i 0] := by
  rw [List.take_add_one, List.getElem?_eq_getElem h, List.getD_eq_getElem?_getD, List.getElem?_eq_getElem h]; rfl
def modS (n m : Int) : Int := if m < 1 then 0 else n % m
def S34 : List AV → Option FOut := sigSpec [I64, I64] [I64] (fun x : Int × Int × Unit => (modS x.1 x.2.1, ())) (fun x : Int × Int × Unit => x.2.1 ≤ 4611686018427387904)
theorem fn34 : FnOk Try.prog 34 S34 := by
  refine fn_of (rs := [.tmp 4]) (env [] trivial) Try.func34 (by kernel_rfl) rfl rfl Try.ntmps34 ?_
  rintro ⟨(n : Int), (m : Int), u⟩ hm G hG hQ
  simp only at hm
  refine AM.run2 hG 100 (by cbv) (by (simp only [sxs, sxb, and_self, and_true, true_and, implies_true, imp_self, bne_eq_false_iff_eq, Nat.zero_add, Nat.le_refl, Int.toNat_natCast, Int.ofNat_lt, Int.natCast_nonneg, decide_eq_true_eq, decide_eq_false_iff_not, bne_iff_ne, ne_eq]; try dsimp only [Kd.T, Kds.T, AK.T, AKs.T])) ?_
  refine AM.case 6 rfl (fun h => ?_) (fun h => ?_) <;> (simp only [sxs, sxb, and_self, and_true, true_and, implies_true, imp_self, bne_eq_false_iff_eq, Nat.zero_add, Nat.le_refl, Int.toNat_natCast, Int.ofNat_lt, Int.natCast_nonneg, decide_eq_true_eq, decide_eq_false_iff_not, bne_iff_ne, ne_eq] at h; try dsimp only [Kd.T, Kds.T, AK.T, AKs.T] at h)
  · refine AM.run2 hG 100 (by cbv) (by (simp only [sxs, sxb, and_self, and_true, true_and, implies_true, imp_self, bne_eq_false_iff_eq, Nat.zero_add, Nat.le_refl, Int.toNat_natCast, Int.ofNat_lt, Int.natCast_nonneg, decide_eq_true_eq, decide_eq_false_iff_not, bne_iff_ne, ne_eq]; try dsimp only [Kd.T, Kds.T, AK.T, AKs.T])) ?_
    refine AM.ret2 hG (by cbv) (by (simp only [sxs, sxb, and_self, and_true, true_and, implies_true, imp_self, bne_eq_false_iff_eq, Nat.zero_add, Nat.le_refl, Int.toNat_natCast, Int.ofNat_lt, Int.natCast_nonneg, decide_eq_true_eq, decide_eq_false_iff_not, bne_iff_ne, ne_eq]; try dsimp only [Kd.T, Kds.T, AK.T, AKs.T])) (hQ _ _ (FinRo.of (by cbv) (by cbv) ?_ ?_))
    · (simp only [sxs, sxb, and_self, and_true, true_and, implies_true, imp_self, bne_eq_false_iff_eq, Nat.zero_add, Nat.le_refl, Int.toNat_natCast, Int.ofNat_lt, Int.natCast_nonneg, decide_eq_true_eq, decide_eq_false_iff_not, bne_iff_ne, ne_eq]; try dsimp only [Kd.T, Kds.T, AK.T, AKs.T])
    try (simp only [sxs, sxb, and_self, and_true, true_and, implies_true, imp_self, bne_eq_false_iff_eq, Nat.zero_add, Nat.le_refl, Int.toNat_natCast, Int.ofNat_lt, Int.natCast_nonneg, decide_eq_true_eq, decide_eq_false_iff_not, bne_iff_ne, ne_eq]; try dsimp only [Kd.T, Kds.T, AK.T, AKs.T])
    simp only [modS, if_pos h]
  · refine AM.run2 hG 100 (by cbv) ?_ ?_
    · (simp only [sxs, sxb, and_self, and_true, true_and, implies_true, imp_self, bne_eq_false_iff_eq, Nat.zero_add, Nat.le_refl, Int.toNat_natCast, Int.ofNat_lt, Int.natCast_nonneg, decide_eq_true_eq, decide_eq_false_iff_not, bne_iff_ne, ne_eq]; try dsimp only [Kd.T, Kds.T, AK.T, AKs.T])
      omega
    have h1 := Int.tmod_add_mul_tdiv n m
    refine AM.case 11 rfl (fun g => ?_) (fun g => ?_) <;> (simp only [sxs, sxb, and_self, and_true, true_and, implies_true, imp_self, bne_eq_false_iff_eq, Nat.zero_add, Nat.le_refl, Int.toNat_natCast, Int.ofNat_lt, Int.natCast_nonneg, decide_eq_true_eq, decide_eq_false_iff_not, bne_iff_ne, ne_eq] at g; try dsimp only [Kd.T, Kds.T, AK.T, AKs.T] at g)
    · refine AM.run2 hG 100 (by cbv) (by (simp only [sxs, sxb, and_self, and_true, true_and, implies_true, imp_self, bne_eq_false_iff_eq, Nat.zero_add, Nat.le_refl, Int.toNat_natCast, Int.ofNat_lt, Int.natCast_nonneg, decide_eq_true_eq, decide_eq_false_iff_not, bne_iff_ne, ne_eq]; try dsimp only [Kd.T, Kds.T, AK.T, AKs.T])) ?_
      have h2 : n.tmod m + m = n % m := by
        rcases (show n < 0 ∨ 0 ≤ n by omega) with hn | hn
        · rw [Int.tmod_eq_emod]
          rw [Int.tmod_eq_emod] at g
          simp only [show ¬ 0 ≤ n by omega, false_or] at g ⊢
          split at g
          · have := Int.emod_nonneg n (show m ≠ 0 by omega); omega
          · rename_i hd
            rw [if_neg hd]
            omega
        · rw [Int.tmod_eq_emod_of_nonneg hn] at g
          have := Int.emod_nonneg n (show m ≠ 0 by omega); omega
      have h3 := Int.emod_nonneg n (show m ≠ 0 by omega)
      have h4 := Int.emod_lt_of_pos n (show 0 < m by omega)
      refine AM.ret2 hG (by cbv) (by (simp only [sxs, sxb, and_self, and_true, true_and, implies_true, imp_self, bne_eq_false_iff_eq, Nat.zero_add, Nat.le_refl, Int.toNat_natCast, Int.ofNat_lt, Int.natCast_nonneg, decide_eq_true_eq, decide_eq_false_iff_not, bne_iff_ne, ne_eq]; try dsimp only [Kd.T, Kds.T, AK.T, AKs.T])) (hQ _ _ (FinRo.of (by cbv) (by cbv) ?_ ?_))
      · (simp only [sxs, sxb, and_self, and_true, true_and, implies_true, imp_self, bne_eq_false_iff_eq, Nat.zero_add, Nat.le_refl, Int.toNat_natCast, Int.ofNat_lt, Int.natCast_nonneg, decide_eq_true_eq, decide_eq_false_iff_not, bne_iff_ne, ne_eq]; try dsimp only [Kd.T, Kds.T, AK.T, AKs.T])
      try (simp only [sxs, sxb, and_self, and_true, true_and, implies_true, imp_self, bne_eq_false_iff_eq, Nat.zero_add, Nat.le_refl, Int.toNat_natCast, Int.ofNat_lt, Int.natCast_nonneg, decide_eq_true_eq, decide_eq_false_iff_not, bne_iff_ne, ne_eq]; try dsimp only [Kd.T, Kds.T, AK.T, AKs.T])
      rw [h2, w64 (by omega) (by omega)]
      simp only [modS, if_neg h]
    · refine AM.run2 hG 100 (by cbv) (by (simp only [sxs, sxb, and_self, and_true, true_and, implies_true, imp_self, bne_eq_false_iff_eq, Nat.zero_add, Nat.le_refl, Int.toNat_natCast, Int.ofNat_lt, Int.natCast_nonneg, decide_eq_true_eq, decide_eq_false_iff_not, bne_iff_ne, ne_eq]; try dsimp only [Kd.T, Kds.T, AK.T, AKs.T])) ?_
      refine AM.ret2 hG (by cbv) (by (simp only [sxs, sxb, and_self, and_true, true_and, implies_true, imp_self, bne_eq_false_iff_eq, Nat.zero_add, Nat.le_refl, Int.toNat_natCast, Int.ofNat_lt, Int.natCast_nonneg, decide_eq_true_eq, decide_eq_false_iff_not, bne_iff_ne, ne_eq]; try dsimp only [Kd.T, Kds.T, AK.T, AKs.T])) (hQ _ _ (FinRo.of (by cbv) (by cbv) ?_ ?_))
      · (simp only [sxs, sxb, and_self, and_true, true_and, implies_true, imp_self, bne_eq_false_iff_eq, Nat.zero_add, Nat.le_refl, Int.toNat_natCast, Int.ofNat_lt, Int.natCast_nonneg, decide_eq_true_eq, decide_eq_false_iff_not, bne_iff_ne, ne_eq]; try dsimp only [Kd.T, Kds.T, AK.T, AKs.T])
      try (simp only [sxs, sxb, and_self, and_true, true_and, implies_true, imp_self, bne_eq_false_iff_eq, Nat.zero_add, Nat.le_refl, Int.toNat_natCast, Int.ofNat_lt, Int.natCast_nonneg, decide_eq_true_eq, decide_eq_false_iff_not, bne_iff_ne, ne_eq]; try dsimp only [Kd.T, Kds.T, AK.T, AKs.T])
      simp only [modS, if_neg h]
      rw [Int.tmod_eq_emod] at g ⊢
      have h3 := Int.emod_nonneg n (show m ≠ 0 by omega)
      have h4 := Int.emod_lt_of_pos n (show 0 < m by omega)
      split at g
      · rename_i hd; rw [if_pos hd]; omega
      · omega
theorem qr {k : Int} (h0 : 0 ≤ k) (h1 : k < 1073741824) (m n : Int) (hm : 0 < m) (hm2 : m ≤ 1073741824) : (IntKind.i64.wrap (k.tdiv m)).tmod n = (k / m) % n ∧ IntKind.i64.wrap (k.tdiv m) = k / m := by
  have q0 := Int.ediv_nonneg h0 (Int.le_of_lt hm)
  have q1 := Int.ediv_le_self m h0
  rw [Int.tdiv_eq_ediv_of_nonneg h0, w64 (by omega) (by omega), Int.tmod_eq_emod_of_nonneg q0]
  exact ⟨rfl, rfl⟩
theorem modS_in (n : Int) {m : Int} (h : 0 < m) : 0 ≤ modS n m ∧ modS n m < m := by
  rw [modS, if_neg (by omega)]
  exact ⟨Int.emod_nonneg n (by omega), Int.emod_lt_of_pos n h⟩
def callM (k a : Int) : Call := if (k / 7) % 3 = 2 then (3, (k / 21) % 8, 1 + (k / 168) % 4, a, ()) else (1 + (k / 7) % 3, (k / 21) % 8, 0, a, ())
def stepM (s : Int × List Call) (n : Int) : Int × List Call :=
  let k := modS n 1048576
  let a := s.1 + k % 7
  if s.2.any (sameB (callM k a)) = true then (a, s.2) else (a, s.2 ++ [callM k a])
def madeM (nums : List Int) : Int × List Call := (nums.take 20).foldl stepM (0, [])
def askM (K a : Int) (i : Nat) : Ask := (nI i, (K / 4) / 2 ^ (2 * i) % 4, (K / 4096) % 16, a + (K / 65536) % 20, 1 + (K / 16) % 60, (K / 8) % 3 * 50, 60, nI i, 0, [], ())
def asksM (K a : Int) (m : Nat) : List Ask := (List.range m).map fun i => askM K a (i + 1)
def carsM (K : Int) : Nat := (1 + K % 4).toNat
def tabM (nums : List Int) : Table := (32, (madeM nums).2, ())
def turnM (nums : List Int) (n : Int) : List Ask := asksM (modS n 1073741824) (madeM nums).1 (carsM (modS n 1073741824))
def S10 : List AV → Option FOut := sigSpec [IntsK, I64] [TableK, AsksK] (fun x : List Int × Int × Unit => (tabM x.1, turnM x.1 x.2.1, ())) (fun _ => True)
theorem asksM_len (K a : Int) (m : Nat) : (asksM K a m).length = m := by simp [asksM]
theorem asksM_succ (K a : Int) (m : Nat) : asksM K a (m + 1) = asksM K a m ++ [askM K a (m + 1)] := by
  rw [asksM, asksM, List.range_succ, List.map_append]; rfl
theorem shift9 {i : Nat} (h : i < 8) : min (IntKind.u64.wrap (IntKind.i64.wrap (2 * nI (i + 1)))).toNat IntKind.i64.bits = 2 * (i + 1) := by
  have : ∀ j : Fin 8, min (IntKind.u64.wrap (IntKind.i64.wrap (2 * nI (j.1 + 1)))).toNat IntKind.i64.bits = 2 * (j.1 + 1) := by decide
  exact this ⟨i, h⟩
theorem askM_eq {K a : Int} {i : Nat} (h0 : 0 ≤ K) (h1 : K < 1073741824) (a0 : 0 ≤ a) (a1 : a ≤ 120) (hi : i < 4) : ((nI (i + 1), ((IntKind.i64.wrap (K.tdiv 4)).fdiv (2 ^ min (IntKind.u64.wrap (IntKind.i64.wrap (2 * nI (i + 1)))).toNat IntKind.i64.bits)).tmod 4, (IntKind.i64.wrap (K.tdiv 4096)).tmod 16,
    IntKind.i64.wrap (a + (IntKind.i64.wrap (K.tdiv 65536)).tmod 20), IntKind.i64.wrap (1 + (IntKind.i64.wrap (K.tdiv 16)).tmod 60), IntKind.i64.wrap ((IntKind.i64.wrap (K.tdiv 8)).tmod 3 * 50), 60, nI (i + 1), 0, [], ()) : Ask) = askM K a (i + 1) := by
  have hp : (0 : Int) < 2 ^ (2 * (i + 1)) := Int.pow_pos (by decide)
  have hd := Int.ediv_nonneg (Int.ediv_nonneg h0 (show (0 : Int) ≤ 4 by decide)) (Int.le_of_lt hp)
  rw [shift9 (by omega), (qr h0 h1 4 4 (by decide) (by decide)).2, (qr h0 h1 4096 16 (by decide) (by decide)).1, (qr h0 h1 65536 20 (by decide) (by decide)).1, (qr h0 h1 16 60 (by decide) (by decide)).1, (qr h0 h1 8 3 (by decide) (by decide)).1, w64 (by omega) (by omega), w64 (by omega) (by omega), w64 (by omega) (by omega), Int.fdiv_eq_ediv_of_nonneg _ (Int.le_of_lt hp), Int.tmod_eq_emod_of_nonneg hd]
  rfl
theorem ite_and9 (a b : Bool) : (if a = true then b else false) = (a && b) := by cases a <;> simp
set_option maxHeartbeats 8000000 in
theorem fn10 : FnOk Try.prog 10 S10 := by
  refine fn_ofB (rs := [.cell 4 25, .tmp 5]) (env [(34, S34), (38, S38), (39, S39)] ⟨fn34, fn38, fn39, trivial⟩) Try.func10 (by kernel_rfl) rfl rfl Try.ntmps10 ?_
  rintro ⟨(nums : List Int), (n : Int), u2⟩ _ G hG hB hQ
  have hB := GB.of hB
  refine AM.run2 hG 100 (by cbv) ?_ ?_
  · (simp only [sxs, sxb, and_self, and_true, true_and, implies_true, imp_self, bne_eq_false_iff_eq, Nat.zero_add, Nat.le_refl, Int.toNat_natCast, Int.ofNat_lt, Int.natCast_nonneg, decide_eq_true_eq, decide_eq_false_iff_not, bne_iff_ne, ne_eq]; try dsimp only [Kd.T, Kds.T, AK.T, AKs.T])
  refine AM.emptyRow 1 1 38 CallK rfl (by decide) rfl ?_
  refine AM.loopI (fun z : Nat × Int × List Call => (frame 118 [(0, .ro I64 fun _ => nums), (1, .int .i64 (.t fun _ => n)), (4, .ptr 0 0), (5, .nils), (6, .ptr 1 0), (7, .int .i64 (.t fun _ => z.2.1)), (8, .int .i64 (.t fun _ => nI z.1))],
    [.box 25 [.int .i64 (.l 0), .nils], .box 25 [.int .i64 (.l 32), .sl 2 4 (.l 0) (.t fun _ => z.2.2.length)], .row 38 CallK (fun _ => z.2.2)]))
    (fun z => z.1 ≤ nums.length ∧ z.1 ≤ 20 ∧ (nums.take z.1).foldl stepM (0, []) = (z.2.1, z.2.2) ∧ z.2.2.length ≤ z.1 ∧ 0 ≤ z.2.1 ∧ z.2.1 ≤ 6 * z.1) (fun z => nums.length - z.1) (0, 0, []) ⟨by simp, by simp, rfl, by simp, by simp, by simp⟩ ?_ ?_ ?_
  · cbv; (simp only [sxs, sxb, and_self, and_true, true_and, implies_true, imp_self, bne_eq_false_iff_eq, Nat.zero_add, Nat.le_refl, Int.toNat_natCast, Int.ofNat_lt, Int.natCast_nonneg, decide_eq_true_eq, decide_eq_false_iff_not, bne_iff_ne, ne_eq]; try dsimp only [Kd.T, Kds.T, AK.T, AKs.T]); all_goals ((repeat' apply And.intro) <;> first | rfl | assumption | exact trivial)
  · cbv; (simp only [sxs, sxb, and_self, and_true, true_and, implies_true, imp_self, bne_eq_false_iff_eq, Nat.zero_add, Nat.le_refl, Int.toNat_natCast, Int.ofNat_lt, Int.natCast_nonneg, decide_eq_true_eq, decide_eq_false_iff_not, bne_iff_ne, ne_eq]; try dsimp only [Kd.T, Kds.T, AK.T, AKs.T]); all_goals ((repeat' apply And.intro) <;> first | rfl | assumption | exact trivial)
  rintro ⟨i, a, l⟩ ⟨hi, hi20, hs, hli, ha, ha4⟩ ih
  simp only at hi hi20 hs hli ha ha4
  refine AM.run2 hG 100 (by cbv) ?_ ?_
  · (simp only [sxs, sxb, and_self, and_true, true_and, implies_true, imp_self, bne_eq_false_iff_eq, Nat.zero_add, Nat.le_refl, Int.toNat_natCast, Int.ofNat_lt, Int.natCast_nonneg, decide_eq_true_eq, decide_eq_false_iff_not, bne_iff_ne, ne_eq]; try dsimp only [Kd.T, Kds.T, AK.T, AKs.T])
  refine AM.case 24 rfl (fun h => ?_) (fun h => ?_)
  · replace h : (if ltI (nI i) (nI nums.length) = true then ltI (nI i) 20 else false) = true := h
    rw [ite_and9, Bool.and_eq_true, ltI_t, ltI_t] at h
    obtain ⟨h, h20⟩ := h
    (simp only [sxs, sxb, and_self, and_true, true_and, implies_true, imp_self, bne_eq_false_iff_eq, Nat.zero_add, Nat.le_refl, Int.toNat_natCast, Int.ofNat_lt, Int.natCast_nonneg, decide_eq_true_eq, decide_eq_false_iff_not, bne_iff_ne, ne_eq] at h h20; try dsimp only [Kd.T, Kds.T, AK.T, AKs.T] at h h20)
    refine AM.run2 hG 100 (by cbv) ?_ ?_
    · (simp only [sxs, sxb, and_self, and_true, true_and, implies_true, imp_self, bne_eq_false_iff_eq, Nat.zero_add, Nat.le_refl, Int.toNat_natCast, Int.ofNat_lt, Int.natCast_nonneg, decide_eq_true_eq, decide_eq_false_iff_not, bne_iff_ne, ne_eq]; try dsimp only [Kd.T, Kds.T, AK.T, AKs.T])
      exact ⟨by decide, by decide, by decide, by decide, by decide, by decide, h⟩
    obtain ⟨k, hk⟩ : ∃ k, modS (nums.getD i 0) 1048576 = k := ⟨_, rfl⟩
    have hk0 := modS_in (nums.getD i 0) (show (0 : Int) < 1048576 by decide)
    rw [hk] at hk0
    obtain ⟨hk0, hk1⟩ := hk0
    have ek : k.tmod 7 = k % 7 := Int.tmod_eq_emod_of_nonneg hk0
    obtain ⟨b, hb⟩ : ∃ b, a + k % 7 = b := ⟨_, rfl⟩
    have eb : IntKind.i64.wrap (a + k.tmod 7) = b := by rw [ek, w64 (by omega) (by omega), hb]
    have e4 := (qr hk0 (by omega) 7 3 (by decide) (by decide)).1
    have e16 := (qr hk0 (by omega) 21 8 (by decide) (by decide)).1
    have e128 := (qr hk0 (by omega) 168 4 (by decide) (by decide)).1
    have ew1 : IntKind.i64.wrap (1 + (k / 7) % 3) = 1 + (k / 7) % 3 := w64 (by omega) (by omega)
    have ew2 : IntKind.i64.wrap (1 + (k / 168) % 4) = 1 + (k / 168) % 4 := w64 (by omega) (by omega)
    refine' AM.meetM (fun c : Call => (frame 118 [(0, .ro I64 fun _ => nums), (1, .int .i64 (.t fun _ => n)), (4, .ptr 0 0), (5, .nils), (6, .ptr 1 0), (7, .int .i64 (.t fun _ => b)), (8, .int .i64 (.t fun _ => nI i)), (10, .ptr 3 0)],
      [.box 25 [.int .i64 (.l 0), .nils], .box 25 [.int .i64 (.l 32), .sl 2 4 (.l 0) (.t fun _ => l.length)], .row 38 CallK (fun _ => l), .box 38 (cAtF fun _ => c)])) (fun c => c = callM k b) ?_ ?_
    rotate_left 1
    · intro after
      refine AM.case 47 rfl (fun h2 => ?_) (fun h2 => ?_) <;> (simp only [sxs, sxb, and_self, and_true, true_and, implies_true, imp_self, bne_eq_false_iff_eq, Nat.zero_add, Nat.le_refl, Int.toNat_natCast, Int.ofNat_lt, Int.natCast_nonneg, decide_eq_true_eq, decide_eq_false_iff_not, bne_iff_ne, ne_eq] at h2; try dsimp only [Kd.T, Kds.T, AK.T, AKs.T] at h2)
      · rw [hk, e4, ew1] at h2
        refine AM.runTo2 hG 11 100 (by cbv) (by (simp only [sxs, sxb, and_self, and_true, true_and, implies_true, imp_self, bne_eq_false_iff_eq, Nat.zero_add, Nat.le_refl, Int.toNat_natCast, Int.ofNat_lt, Int.natCast_nonneg, decide_eq_true_eq, decide_eq_false_iff_not, bne_iff_ne, ne_eq]; try dsimp only [Kd.T, Kds.T, AK.T, AKs.T]); decide) ?_
        refine AM.imp2 (by cbv) (by cbv) ?_ ?_ (after _ rfl)
        · (simp only [sxs, sxb, and_self, and_true, true_and, implies_true, imp_self, bne_eq_false_iff_eq, Nat.zero_add, Nat.le_refl, Int.toNat_natCast, Int.ofNat_lt, Int.natCast_nonneg, decide_eq_true_eq, decide_eq_false_iff_not, bne_iff_ne, ne_eq]; try dsimp only [Kd.T, Kds.T, AK.T, AKs.T])
          rw [hk]
          exact eb
        · (simp only [sxs, sxb, and_self, and_true, true_and, implies_true, imp_self, bne_eq_false_iff_eq, Nat.zero_add, Nat.le_refl, Int.toNat_natCast, Int.ofNat_lt, Int.natCast_nonneg, decide_eq_true_eq, decide_eq_false_iff_not, bne_iff_ne, ne_eq]; try dsimp only [Kd.T, Kds.T, AK.T, AKs.T])
          rw [hk, callM, if_pos (by omega), eb, e16, e128, ew2]
          exact ⟨by rw [e4, ew1]; exact h2, rfl, rfl, rfl⟩
      · rw [hk, e4, ew1] at h2
        refine AM.runTo2 hG 11 100 (by cbv) (by (simp only [sxs, sxb, and_self, and_true, true_and, implies_true, imp_self, bne_eq_false_iff_eq, Nat.zero_add, Nat.le_refl, Int.toNat_natCast, Int.ofNat_lt, Int.natCast_nonneg, decide_eq_true_eq, decide_eq_false_iff_not, bne_iff_ne, ne_eq]; try dsimp only [Kd.T, Kds.T, AK.T, AKs.T])) ?_
        refine AM.imp2 (by cbv) (by cbv) ?_ ?_ (after _ rfl)
        · (simp only [sxs, sxb, and_self, and_true, true_and, implies_true, imp_self, bne_eq_false_iff_eq, Nat.zero_add, Nat.le_refl, Int.toNat_natCast, Int.ofNat_lt, Int.natCast_nonneg, decide_eq_true_eq, decide_eq_false_iff_not, bne_iff_ne, ne_eq]; try dsimp only [Kd.T, Kds.T, AK.T, AKs.T])
          rw [hk]
          exact eb
        · (simp only [sxs, sxb, and_self, and_true, true_and, implies_true, imp_self, bne_eq_false_iff_eq, Nat.zero_add, Nat.le_refl, Int.toNat_natCast, Int.ofNat_lt, Int.natCast_nonneg, decide_eq_true_eq, decide_eq_false_iff_not, bne_iff_ne, ne_eq]; try dsimp only [Kd.T, Kds.T, AK.T, AKs.T])
          rw [hk, callM, if_neg (by omega), eb, e16, e4, ew1]
          exact ⟨rfl, rfl, rfl, rfl⟩
    rintro c hc
    obtain ⟨c1, c2, c3, c4, c5⟩ := c
    refine AM.run2 hG 100 (by cbv) ?_ ?_
    · (simp only [sxs, sxb, and_self, and_true, true_and, implies_true, imp_self, bne_eq_false_iff_eq, Nat.zero_add, Nat.le_refl, Int.toNat_natCast, Int.ofNat_lt, Int.natCast_nonneg, decide_eq_true_eq, decide_eq_false_iff_not, bne_iff_ne, ne_eq]; try dsimp only [Kd.T, Kds.T, AK.T, AKs.T])
    refine AM.loopI (fun z : Nat × Bool => (frame 118 [(0, .ro I64 fun _ => nums), (1, .int .i64 (.t fun _ => n)), (4, .ptr 0 0), (5, .nils), (6, .ptr 1 0), (7, .int .i64 (.t fun _ => b)), (8, .int .i64 (.t fun _ => nI i)), (10, .ptr 3 0), (11, .bool (.t fun _ => z.2)), (12, .int .i64 (.t fun _ => nI z.1))],
      [.box 25 [.int .i64 (.l 0), .nils], .box 25 [.int .i64 (.l 32), .sl 2 4 (.l 0) (.t fun _ => l.length)], .row 38 CallK (fun _ => l), .box 38 (cAtF fun _ => (c1, c2, c3, c4, ()))]))
      (fun z => z.1 ≤ l.length ∧ (z.2 || (l.drop z.1).any fun x => sameB x (c1, c2, c3, c4, ())) = hasB l (c1, c2, c3, c4, ())) (fun z => l.length - z.1) (0, false) ⟨by simp, by simp [hasB]⟩ ?_ ?_ ?_
    · cbv; (simp only [sxs, sxb, and_self, and_true, true_and, implies_true, imp_self, bne_eq_false_iff_eq, Nat.zero_add, Nat.le_refl, Int.toNat_natCast, Int.ofNat_lt, Int.natCast_nonneg, decide_eq_true_eq, decide_eq_false_iff_not, bne_iff_ne, ne_eq]; try dsimp only [Kd.T, Kds.T, AK.T, AKs.T]); all_goals ((repeat' apply And.intro) <;> first | rfl | assumption | exact trivial)
    · cbv; (simp only [sxs, sxb, and_self, and_true, true_and, implies_true, imp_self, bne_eq_false_iff_eq, Nat.zero_add, Nat.le_refl, Int.toNat_natCast, Int.ofNat_lt, Int.natCast_nonneg, decide_eq_true_eq, decide_eq_false_iff_not, bne_iff_ne, ne_eq]; try dsimp only [Kd.T, Kds.T, AK.T, AKs.T]); all_goals ((repeat' apply And.intro) <;> first | rfl | assumption | exact trivial)
    · rintro ⟨j, d⟩ ⟨hj, hd⟩ ih2
      simp only at hj hd
      refine AM.run2 hG 100 (by cbv) ?_ ?_
      · (simp only [sxs, sxb, and_self, and_true, true_and, implies_true, imp_self, bne_eq_false_iff_eq, Nat.zero_add, Nat.le_refl, Int.toNat_natCast, Int.ofNat_lt, Int.natCast_nonneg, decide_eq_true_eq, decide_eq_false_iff_not, bne_iff_ne, ne_eq]; try dsimp only [Kd.T, Kds.T, AK.T, AKs.T])
      refine AM.case 57 rfl (fun h3 => ?_) (fun h3 => ?_) <;> (simp only [sxs, sxb, and_self, and_true, true_and, implies_true, imp_self, bne_eq_false_iff_eq, Nat.zero_add, Nat.le_refl, Int.toNat_natCast, Int.ofNat_lt, Int.natCast_nonneg, decide_eq_true_eq, decide_eq_false_iff_not, bne_iff_ne, ne_eq] at h3; try dsimp only [Kd.T, Kds.T, AK.T, AKs.T] at h3)
      · refine AM.run2 hG 100 (by cbv) ?_ ?_
        · (simp only [sxs, sxb, and_self, and_true, true_and, implies_true, imp_self, bne_eq_false_iff_eq, Nat.zero_add, Nat.le_refl, Int.toNat_natCast, Int.ofNat_lt, Int.natCast_nonneg, decide_eq_true_eq, decide_eq_false_iff_not, bne_iff_ne, ne_eq]; try dsimp only [Kd.T, Kds.T, AK.T, AKs.T])
          all_goals ((repeat' first | apply And.intro | intro _) <;> first | exact h3 | assumption)
        refine AM.ren hB [0, 1, 2, 3] (by cbv) (by cbv) (by cbv) ?_ ?_ (ih2 (j + 1, d || sameB (l.getD j zc) (c1, c2, c3, c4, ())) ⟨by simp only; omega, by rw [← hd, dropD h3 zc, List.any_cons, Bool.or_assoc]⟩ (by simp only; omega))
        · (simp only [sxs, sxb, and_self, and_true, true_and, implies_true, imp_self, bne_eq_false_iff_eq, Nat.zero_add, Nat.le_refl, Int.toNat_natCast, Int.ofNat_lt, Int.natCast_nonneg, decide_eq_true_eq, decide_eq_false_iff_not, bne_iff_ne, ne_eq]; try dsimp only [Kd.T, Kds.T, AK.T, AKs.T])
          refine ⟨?_, ?_⟩
          · show _ = (d || sameB (l.getD j (0, 0, 0, 0, ())) (c1, c2, c3, c4, ()))
            rw [Bool.eq_iff_iff]
            simp [sameB, eqI]
          · rw [w64s (by omega)]
        · (simp only [sxs, sxb, and_self, and_true, true_and, implies_true, imp_self, bne_eq_false_iff_eq, Nat.zero_add, Nat.le_refl, Int.toNat_natCast, Int.ofNat_lt, Int.natCast_nonneg, decide_eq_true_eq, decide_eq_false_iff_not, bne_iff_ne, ne_eq]; try dsimp only [Kd.T, Kds.T, AK.T, AKs.T])
      · rw [List.drop_of_length_le (by omega), List.any_nil, Bool.or_false] at hd
        have hnext : (nums.take (i + 1)).foldl stepM (0, []) = (b, if d = true then l else l ++ [callM k b]) := by
          rw [take_succI h, List.foldl_append, hs]
          simp only [List.foldl_cons, List.foldl_nil, stepM]
          rw [hk, hb, ← hc]
          have : l.any (sameB (c1, c2, c3, c4, c5)) = d := by
            rw [hd]
            unfold hasB
            congr 1
            funext x
            simp only [sameB]
            congr 1
            simp only [eq_comm]
          rw [this]
          split <;> rfl
        clear ih2
        refine AM.run2 hG 100 (by cbv) ?_ ?_
        · (simp only [sxs, sxb, and_self, and_true, true_and, implies_true, imp_self, bne_eq_false_iff_eq, Nat.zero_add, Nat.le_refl, Int.toNat_natCast, Int.ofNat_lt, Int.natCast_nonneg, decide_eq_true_eq, decide_eq_false_iff_not, bne_iff_ne, ne_eq]; try dsimp only [Kd.T, Kds.T, AK.T, AKs.T])
        refine AM.case 71 rfl (fun h4 => ?_) (fun h4 => ?_) <;> (simp only [sxs, sxb, and_self, and_true, true_and, implies_true, imp_self, bne_eq_false_iff_eq, Nat.zero_add, Nat.le_refl, Int.toNat_natCast, Int.ofNat_lt, Int.natCast_nonneg, decide_eq_true_eq, decide_eq_false_iff_not, bne_iff_ne, ne_eq] at h4; try dsimp only [Kd.T, Kds.T, AK.T, AKs.T] at h4)
        · refine AM.run2 hG 100 (by cbv) ?_ ?_
          · (simp only [sxs, sxb, and_self, and_true, true_and, implies_true, imp_self, bne_eq_false_iff_eq, Nat.zero_add, Nat.le_refl, Int.toNat_natCast, Int.ofNat_lt, Int.natCast_nonneg, decide_eq_true_eq, decide_eq_false_iff_not, bne_iff_ne, ne_eq]; try dsimp only [Kd.T, Kds.T, AK.T, AKs.T])
            simp only [maxLen, List.length_take, List.length_cons, List.length_nil]
            omega
          refine AM.ren hB [0, 1, 5] (by cbv) (by cbv) (by cbv) ?_ ?_ (ih (i + 1, b, l ++ [(c1, c2, c3, c4, ())]) ⟨by simp only; omega, by simp only; omega, by rw [hnext, if_neg (by rw [h4]; decide), ← hc], by simp only [List.length_append, List.length_cons, List.length_nil]; omega, by simp only; omega, by simp only; omega⟩ (by simp only; omega))
          · (simp only [sxs, sxb, and_self, and_true, true_and, implies_true, imp_self, bne_eq_false_iff_eq, Nat.zero_add, Nat.le_refl, Int.toNat_natCast, Int.ofNat_lt, Int.natCast_nonneg, decide_eq_true_eq, decide_eq_false_iff_not, bne_iff_ne, ne_eq]; try dsimp only [Kd.T, Kds.T, AK.T, AKs.T])
            rw [w64s (by omega)]
          · (simp only [sxs, sxb, and_self, and_true, true_and, implies_true, imp_self, bne_eq_false_iff_eq, Nat.zero_add, Nat.le_refl, Int.toNat_natCast, Int.ofNat_lt, Int.natCast_nonneg, decide_eq_true_eq, decide_eq_false_iff_not, bne_iff_ne, ne_eq]; try dsimp only [Kd.T, Kds.T, AK.T, AKs.T])
            rw [List.length_append]
            exact ⟨rfl, rfl⟩
        · refine AM.run2 hG 100 (by cbv) ?_ ?_
          · (simp only [sxs, sxb, and_self, and_true, true_and, implies_true, imp_self, bne_eq_false_iff_eq, Nat.zero_add, Nat.le_refl, Int.toNat_natCast, Int.ofNat_lt, Int.natCast_nonneg, decide_eq_true_eq, decide_eq_false_iff_not, bne_iff_ne, ne_eq]; try dsimp only [Kd.T, Kds.T, AK.T, AKs.T])
          refine AM.ren hB [0, 1, 2] (by cbv) (by cbv) (by cbv) ?_ ?_ (ih (i + 1, b, l) ⟨by simp only; omega, by simp only; omega, by rw [hnext, if_pos h4], by simp only; omega, by simp only; omega, by simp only; omega⟩ (by simp only; omega))
          · (simp only [sxs, sxb, and_self, and_true, true_and, implies_true, imp_self, bne_eq_false_iff_eq, Nat.zero_add, Nat.le_refl, Int.toNat_natCast, Int.ofNat_lt, Int.natCast_nonneg, decide_eq_true_eq, decide_eq_false_iff_not, bne_iff_ne, ne_eq]; try dsimp only [Kd.T, Kds.T, AK.T, AKs.T])
            rw [w64s (by omega)]
          · (simp only [sxs, sxb, and_self, and_true, true_and, implies_true, imp_self, bne_eq_false_iff_eq, Nat.zero_add, Nat.le_refl, Int.toNat_natCast, Int.ofNat_lt, Int.natCast_nonneg, decide_eq_true_eq, decide_eq_false_iff_not, bne_iff_ne, ne_eq]; try dsimp only [Kd.T, Kds.T, AK.T, AKs.T])
  replace h : (if ltI (nI i) (nI nums.length) = true then ltI (nI i) 20 else false) = false := h
  rw [ite_and9, Bool.and_eq_false_iff] at h
  have hend : madeM nums = (a, l) := by
    rw [madeM, ← hs]
    congr 1
    rcases h with h | h
    · rw [ltI_f] at h
      (simp only [sxs, sxb, and_self, and_true, true_and, implies_true, imp_self, bne_eq_false_iff_eq, Nat.zero_add, Nat.le_refl, Int.toNat_natCast, Int.ofNat_lt, Int.natCast_nonneg, decide_eq_true_eq, decide_eq_false_iff_not, bne_iff_ne, ne_eq] at h; try dsimp only [Kd.T, Kds.T, AK.T, AKs.T] at h)
      rw [List.take_of_length_le (by omega), List.take_of_length_le (by omega)]
    · rw [ltI_f] at h
      (simp only [sxs, sxb, and_self, and_true, true_and, implies_true, imp_self, bne_eq_false_iff_eq, Nat.zero_add, Nat.le_refl, Int.toNat_natCast, Int.ofNat_lt, Int.natCast_nonneg, decide_eq_true_eq, decide_eq_false_iff_not, bne_iff_ne, ne_eq] at h; try dsimp only [Kd.T, Kds.T, AK.T, AKs.T] at h)
      rw [show i = 20 by omega]
  clear ih
  refine AM.frz [2] (by cbv) (by (simp only [sxs, sxb, and_self, and_true, true_and, implies_true, imp_self, bne_eq_false_iff_eq, Nat.zero_add, Nat.le_refl, Int.toNat_natCast, Int.ofNat_lt, Int.natCast_nonneg, decide_eq_true_eq, decide_eq_false_iff_not, bne_iff_ne, ne_eq]; try dsimp only [Kd.T, Kds.T, AK.T, AKs.T])) ?_
  refine AM.run2 hG 100 (by cbv) ?_ ?_
  · (simp only [sxs, sxb, and_self, and_true, true_and, implies_true, imp_self, bne_eq_false_iff_eq, Nat.zero_add, Nat.le_refl, Int.toNat_natCast, Int.ofNat_lt, Int.natCast_nonneg, decide_eq_true_eq, decide_eq_false_iff_not, bne_iff_ne, ne_eq]; try dsimp only [Kd.T, Kds.T, AK.T, AKs.T])
    decide
  obtain ⟨K, hK⟩ : ∃ K, modS n 1073741824 = K := ⟨_, rfl⟩
  have hK0 := modS_in n (show (0 : Int) < 1073741824 by decide)
  rw [hK] at hK0
  obtain ⟨hK0, hK1⟩ := hK0
  obtain ⟨m, hm⟩ : ∃ m, carsM K = m := ⟨_, rfl⟩
  have hm4 : (1 + K % 4) = ((m : Nat) : Int) := by rw [← hm, carsM]; omega
  have hm1 : 1 ≤ m ∧ m ≤ 4 := by omega
  have hKm : K.tmod 4 = K % 4 := Int.tmod_eq_emod_of_nonneg hK0
  refine AM.emptySlot 14 42 AskK rfl ?_
  refine AM.loopI (fun i : Nat => (frame 118 [(4, .ptr 0 0), (6, .ptr 1 0), (7, .int .i64 (.t fun _ => a)), (13, .int .i64 (.t fun _ => K)), (14, .sl 3 10 (.l 0) (.t fun _ => i)), (15, .int .i64 (.t fun _ => nI (i + 1)))],
    [.box 25 [.int .i64 (.l 0), .nils], .box 25 [.int .i64 (.l 32), .ro CallK fun _ => l], .dead, .row 42 AskK (fun _ => asksM K a i)]))
    (fun i => i ≤ m) (fun i => m - i) 0 (Nat.zero_le _) ?_ ?_ ?_
  · cbv; (simp only [sxs, sxb, and_self, and_true, true_and, implies_true, imp_self, bne_eq_false_iff_eq, Nat.zero_add, Nat.le_refl, Int.toNat_natCast, Int.ofNat_lt, Int.natCast_nonneg, decide_eq_true_eq, decide_eq_false_iff_not, bne_iff_ne, ne_eq]; try dsimp only [Kd.T, Kds.T, AK.T, AKs.T])
    exact ⟨hK, rfl⟩
  · cbv; (simp only [sxs, sxb, and_self, and_true, true_and, implies_true, imp_self, bne_eq_false_iff_eq, Nat.zero_add, Nat.le_refl, Int.toNat_natCast, Int.ofNat_lt, Int.natCast_nonneg, decide_eq_true_eq, decide_eq_false_iff_not, bne_iff_ne, ne_eq]; try dsimp only [Kd.T, Kds.T, AK.T, AKs.T])
    exact ⟨List.take_length, rfl⟩
  rintro i hi ih
  have hwm : IntKind.i64.wrap (1 + K.tmod 4) = ((m : Nat) : Int) := by rw [hKm, w64 (by omega) (by omega), hm4]
  refine AM.run2 hG 100 (by cbv) ?_ ?_
  · (simp only [sxs, sxb, and_self, and_true, true_and, implies_true, imp_self, bne_eq_false_iff_eq, Nat.zero_add, Nat.le_refl, Int.toNat_natCast, Int.ofNat_lt, Int.natCast_nonneg, decide_eq_true_eq, decide_eq_false_iff_not, bne_iff_ne, ne_eq]; try dsimp only [Kd.T, Kds.T, AK.T, AKs.T])
    decide
  refine AM.case 84 rfl (fun h6 => ?_) (fun h6 => ?_) <;> (simp only [sxs, sxb, and_self, and_true, true_and, implies_true, imp_self, bne_eq_false_iff_eq, Nat.zero_add, Nat.le_refl, Int.toNat_natCast, Int.ofNat_lt, Int.natCast_nonneg, decide_eq_true_eq, decide_eq_false_iff_not, bne_iff_ne, ne_eq] at h6; try dsimp only [Kd.T, Kds.T, AK.T, AKs.T] at h6)
  · rw [hwm] at h6
    have hrow := askM_eq (i := i) hK0 hK1 ha (by omega) (by omega)
    have h2i : 0 ≤ IntKind.u64.wrap (IntKind.i64.wrap (2 * nI (i + 1))) := by rw [IntKind.wrap]; exact Int.emod_nonneg _ (by decide)
    refine AM.run2 hG 100 (by cbv) ?_ ?_
    · (simp only [sxs, sxb, and_self, and_true, true_and, implies_true, imp_self, bne_eq_false_iff_eq, Nat.zero_add, Nat.le_refl, Int.toNat_natCast, Int.ofNat_lt, Int.natCast_nonneg, decide_eq_true_eq, decide_eq_false_iff_not, bne_iff_ne, ne_eq]; try dsimp only [Kd.T, Kds.T, AK.T, AKs.T])
      simp only [maxLen, asksM_len, List.length_take, List.length_cons, List.length_nil]
      exact ⟨⟨trivial, by omega, by omega⟩, by decide, by decide, by decide, by decide, by decide, by decide, by decide, by decide, by decide, h2i, by decide⟩
    refine AM.ren hB [0, 1, 2, 5] (by cbv) (by cbv) (by cbv) ?_ ?_ (ih (i + 1) (by omega) (by omega))
    · (simp only [sxs, sxb, and_self, and_true, true_and, implies_true, imp_self, bne_eq_false_iff_eq, Nat.zero_add, Nat.le_refl, Int.toNat_natCast, Int.ofNat_lt, Int.natCast_nonneg, decide_eq_true_eq, decide_eq_false_iff_not, bne_iff_ne, ne_eq]; try dsimp only [Kd.T, Kds.T, AK.T, AKs.T])
      simp only [asksM_len, List.length_take, List.length_cons, List.length_nil]
      rw [w64s (by omega)]
      exact ⟨rfl, rfl⟩
    · (simp only [sxs, sxb, and_self, and_true, true_and, implies_true, imp_self, bne_eq_false_iff_eq, Nat.zero_add, Nat.le_refl, Int.toNat_natCast, Int.ofNat_lt, Int.natCast_nonneg, decide_eq_true_eq, decide_eq_false_iff_not, bne_iff_ne, ne_eq]; try dsimp only [Kd.T, Kds.T, AK.T, AKs.T])
      rw [asksM_succ, ← hrow]
      rfl
  clear ih
  rw [hwm] at h6
  obtain rfl : i = m := by omega
  refine AM.frz [3] (by cbv) (by (simp only [sxs, sxb, and_self, and_true, true_and, implies_true, imp_self, bne_eq_false_iff_eq, Nat.zero_add, Nat.le_refl, Int.toNat_natCast, Int.ofNat_lt, Int.natCast_nonneg, decide_eq_true_eq, decide_eq_false_iff_not, bne_iff_ne, ne_eq]; try dsimp only [Kd.T, Kds.T, AK.T, AKs.T]); rw [asksM_len]; exact Nat.le_refl _) ?_
  refine AM.run2 hG 100 (by cbv) ?_ ?_
  · (simp only [sxs, sxb, and_self, and_true, true_and, implies_true, imp_self, bne_eq_false_iff_eq, Nat.zero_add, Nat.le_refl, Int.toNat_natCast, Int.ofNat_lt, Int.natCast_nonneg, decide_eq_true_eq, decide_eq_false_iff_not, bne_iff_ne, ne_eq]; try dsimp only [Kd.T, Kds.T, AK.T, AKs.T])
  refine AM.ret2 hG (by cbv) (by (simp only [sxs, sxb, and_self, and_true, true_and, implies_true, imp_self, bne_eq_false_iff_eq, Nat.zero_add, Nat.le_refl, Int.toNat_natCast, Int.ofNat_lt, Int.natCast_nonneg, decide_eq_true_eq, decide_eq_false_iff_not, bne_iff_ne, ne_eq]; try dsimp only [Kd.T, Kds.T, AK.T, AKs.T])) (hQ _ _ (FinRo.of (by cbv) (by cbv) ?_ ?_))
  · (simp only [sxs, sxb, and_self, and_true, true_and, implies_true, imp_self, bne_eq_false_iff_eq, Nat.zero_add, Nat.le_refl, Int.toNat_natCast, Int.ofNat_lt, Int.natCast_nonneg, decide_eq_true_eq, decide_eq_false_iff_not, bne_iff_ne, ne_eq]; try dsimp only [Kd.T, Kds.T, AK.T, AKs.T])
  try (simp only [sxs, sxb, and_self, and_true, true_and, implies_true, imp_self, bne_eq_false_iff_eq, Nat.zero_add, Nat.le_refl, Int.toNat_natCast, Int.ofNat_lt, Int.natCast_nonneg, decide_eq_true_eq, decide_eq_false_iff_not, bne_iff_ne, ne_eq]; try dsimp only [Kd.T, Kds.T, AK.T, AKs.T])
  rw [tabM, turnM, hend, hK, hm, List.take_of_length_le (by rw [asksM_len]; exact Nat.le_refl _)]
  exact ⟨⟨rfl, rfl⟩, rfl⟩
structure OkT (l : List Call) (T : Int) : Prop where
  ok : ∀ c ∈ l, callErr c = 0
  late : ∀ c ∈ l, c.2.2.2.1 ≤ T
  srt : l.Pairwise (fun a b : Call => a.2.2.2.1 ≤ b.2.2.2.1)
  dif : l.Pairwise (fun a b : Call => sameB a b = false)
  len : l.length ≤ 20
theorem getD_get {l : List Call} {i : Nat} (h : i < l.length) : l.getD i zc = l[i] := by
  rw [List.getD_eq_getElem?_getD, List.getElem?_eq_getElem h]; rfl
theorem getD_mem {l : List Call} {i : Nat} (h : i < l.length) : l.getD i zc ∈ l := by
  rw [getD_get h]; exact List.getElem_mem h
theorem tabFrom_nil {l : List Call} (h : ∀ i, i < l.length → checkAt l i = 0) : ∀ n i, i + n ≤ l.length → tabFrom l n i = (0, 0)
  | 0, _, _ => rfl
  | n + 1, i, hi => by
    rw [tabFrom, if_neg (by rw [h i (by omega)]; decide)]
    exact tabFrom_nil h n (i + 1) (by omega)
theorem OkT.at {l : List Call} {T : Int} (h : OkT l T) (i : Nat) (hi : i < l.length) : checkAt l i = 0 := by
  have h1 := h.ok _ (getD_mem hi)
  have h2 : ¬ (0 < i ∧ (l.getD i zc).2.2.2.1 < (l.getD (i - 1) zc).2.2.2.1) := by
    rintro ⟨h0, h3⟩
    have := List.pairwise_iff_getElem.1 h.srt (i - 1) i (by omega) hi (by omega)
    rw [getD_get hi, getD_get (show i - 1 < l.length by omega)] at h3
    omega
  have h3 : ¬ hasB (l.take i) (l.getD i zc) = true := by
    intro h4
    rw [hasB, List.any_eq_true] at h4
    obtain ⟨x, hx, hs⟩ := h4
    obtain ⟨j, hj, rfl⟩ := List.getElem_of_mem hx
    rw [List.length_take] at hj
    have := List.pairwise_iff_getElem.1 h.dif j i (by omega) hi (by omega)
    rw [List.getElem_take, getD_get hi, this] at hs
    cases hs
  rw [checkAt, if_neg (by rw [h1]; decide), if_neg h2, if_neg h3]
theorem OkT.check {l : List Call} {T : Int} (h : OkT l T) (u : Unit) : tabE (32, l, u) = 0 := by
  have := h.len
  rw [tabE, tabCheck, if_neg (by simp only; omega), if_neg (by simp only; omega)]
  simp only
  rw [tabFrom_nil h.at _ _ (by omega)]
theorem callM_ok {k a : Int} (hk : 0 ≤ k) (h0 : 0 ≤ a) (h1 : a ≤ 1000) : callErr (callM k a) = 0 := by
  rw [callM]
  split
  · rw [callErr]
    simp only
    rw [if_neg (by omega), if_neg (by omega), if_neg (by omega)]
  · rw [callErr]
    simp only
    rw [if_neg (by omega), if_neg (by omega), if_neg (by omega)]
theorem callM_at (k a : Int) : (callM k a).2.2.2.1 = a := by
  rw [callM]; split <;> rfl
theorem OkT.app {l : List Call} {T : Int} (h : OkT l T) {c : Call} (h1 : callErr c = 0) (h2 : T ≤ c.2.2.2.1) (h3 : l.any (sameB c) = false) (h4 : l.length < 20) : OkT (l ++ [c]) c.2.2.2.1 := by
  refine ⟨?_, ?_, ?_, ?_, by simp; omega⟩
  · intro x hx
    rcases List.mem_append.1 hx with hx | hx
    · exact h.ok x hx
    · rw [List.mem_singleton.1 hx]; exact h1
  · intro x hx
    rcases List.mem_append.1 hx with hx | hx
    · have := h.late x hx; omega
    · rw [List.mem_singleton.1 hx]; omega
  · rw [List.pairwise_append]
    refine ⟨h.srt, by simp, fun x hx y hy => ?_⟩
    rw [List.mem_singleton.1 hy]
    have := h.late x hx
    omega
  · rw [List.pairwise_append]
    refine ⟨h.dif, by simp, fun x hx y hy => ?_⟩
    rw [List.mem_singleton.1 hy, sameB_comm]
    have := List.any_eq_false.1 h3 x hx
    simpa using this
theorem made_go : ∀ (ns : List Int) (a : Int) (l : List Call), OkT l a → 0 ≤ a → l.length + ns.length ≤ 20 → a + 6 * ns.length ≤ 1000 →
    OkT (ns.foldl stepM (a, l)).2 (ns.foldl stepM (a, l)).1 ∧ 0 ≤ (ns.foldl stepM (a, l)).1 ∧ (ns.foldl stepM (a, l)).1 ≤ a + 6 * ns.length
  | [], a, l, h, h0, _, _ => ⟨h, h0, by simp⟩
  | n :: ns, a, l, h, h0, hl, ha => by
    have hk := modS_in n (show (0 : Int) < 1048576 by decide)
    obtain ⟨k, hkk⟩ : ∃ k, modS n 1048576 = k := ⟨_, rfl⟩
    rw [hkk] at hk
    simp only [List.length_cons] at hl ha ⊢
    rw [List.foldl_cons]
    have hc := callM_ok (a := a + k % 7) hk.1 (by omega) (by omega)
    have hat := callM_at k (a + k % 7)
    have hstep : stepM (a, l) n = if l.any (sameB (callM k (a + k % 7))) = true then (a + k % 7, l) else (a + k % 7, l ++ [callM k (a + k % 7)]) := by
      rw [stepM]; simp only [hkk]
    rw [hstep]
    by_cases hs : l.any (sameB (callM k (a + k % 7))) = true
    · rw [if_pos hs]
      have := made_go ns (a + k % 7) l ⟨h.ok, fun x hx => by have := h.late x hx; omega, h.srt, h.dif, h.len⟩ (by omega) (by omega) (by omega)
      exact ⟨this.1, this.2.1, by have := this.2.2; omega⟩
    · rw [if_neg hs]
      have hap := h.app hc (by omega) (by simpa using hs) (by omega)
      rw [hat] at hap
      have := made_go ns (a + k % 7) (l ++ [callM k (a + k % 7)]) hap (by omega) (by simp; omega) (by omega)
      exact ⟨this.1, this.2.1, by have := this.2.2; omega⟩
theorem madeM_ok (nums : List Int) : OkT (madeM nums).2 (madeM nums).1 ∧ 0 ≤ (madeM nums).1 ∧ (madeM nums).1 ≤ 120 := by
  have hl : (nums.take 20).length ≤ 20 := by rw [List.length_take]; omega
  have := made_go (nums.take 20) 0 [] ⟨by simp, by simp, by simp, by simp, by simp⟩ (by decide) (by simp; omega) (by omega)
  exact ⟨this.1, this.2.1, by have := this.2.2; rw [← madeM] at this; omega⟩
theorem tabM_ok (nums : List Int) : tabE (tabM nums) = 0 := (madeM_ok nums).1.check ()
/-- A turn whose asks are all valid, whose cars rise, and whose trips, ticks and cycles are the same. -/
structure TurnOk (l : List Ask) : Prop where
  range : ∀ a ∈ l, askRange a
  none : ∀ a ∈ l, askL a = []
  rise : ∀ i, 0 < i → i < l.length → (l.getD (i - 1) zA).1 < (l.getD i zA).1
  same : ∀ i, i < l.length → (l.getD i zA).2.2.1 = (l.getD 0 zA).2.2.1 ∧ (l.getD i zA).2.2.2.1 = (l.getD 0 zA).2.2.2.1 ∧ (l.getD i zA).2.2.2.2.1 = (l.getD 0 zA).2.2.2.2.1
  len : l.length ≤ 8
theorem turnFrom_nil {l : List Ask} (h : ∀ i, i < l.length → turnAt l i = 0) : ∀ n i, i + n ≤ l.length → turnFrom l n i = (0, 0)
  | 0, _, _ => rfl
  | n + 1, i, hi => by
    rw [turnFrom, if_neg (by rw [h i (by omega)]; decide)]
    exact turnFrom_nil h n (i + 1) (by omega)
theorem getA_mem {l : List Ask} {i : Nat} (h : i < l.length) : l.getD i zA ∈ l := by
  rw [List.getD_eq_getElem?_getD, List.getElem?_eq_getElem h]; exact List.getElem_mem h
theorem askErr_ok {a : Ask} (h : askRange a) (h2 : askL a = []) : askErr a = 0 := by
  rw [askErr, if_neg (by exact fun q => q h)]
  have : a.2.2.2.2.2.2.2.2.2.1 = [] := h2
  rw [this]
  rfl
theorem TurnOk.at {l : List Ask} (h : TurnOk l) (i : Nat) (hi : i < l.length) : turnAt l i = 0 := by
  have hm := getA_mem hi
  have h1 := h.same i hi
  rw [turnAt, if_neg (by rw [askErr_ok (h.range _ hm) (h.none _ hm)]; decide), if_neg (by rw [h.none _ hm]; simp), if_neg (by rintro ⟨q1, q2⟩; have := h.rise i q1 hi; omega), if_neg]
  rw [farA, (neI_f _ _).mpr h1.1, (neI_f _ _).mpr h1.2.1, (neI_f _ _).mpr h1.2.2]
  decide
theorem TurnOk.check {l : List Ask} (h : TurnOk l) : turnCheck l = (0, 0) := by
  rw [turnCheck, if_neg (by have := h.len; omega), turnFrom_nil h.at _ _ (by omega)]
theorem TurnOk.take {l : List Ask} (h : TurnOk l) (k : Nat) : TurnOk (l.take k) := by
  have hg : ∀ i, i < (l.take k).length → (l.take k).getD i zA = l.getD i zA := fun i hi => by
    rw [List.length_take] at hi
    rw [List.getD_eq_getElem?_getD, List.getD_eq_getElem?_getD, List.getElem?_take_of_lt (by omega)]
  refine ⟨fun a ha => h.range a (List.mem_of_mem_take ha), fun a ha => h.none a (List.mem_of_mem_take ha), fun i h0 hi => ?_, fun i hi => ?_, by have := h.len; rw [List.length_take]; omega⟩
  · rw [hg i hi, hg (i - 1) (by omega)]
    rw [List.length_take] at hi
    exact h.rise i h0 (by omega)
  · rw [hg i hi, hg 0 (by omega)]
    rw [List.length_take] at hi
    exact h.same i (by omega)
theorem asks_at {K a : Int} {m i : Nat} (h : i < m) : (asksM K a m).getD i zA = askM K a (i + 1) := by
  rw [asksM, List.getD_eq_getElem?_getD]
  simp [h]
theorem askM_ok {K a : Int} {i : Nat} (hK : 0 ≤ K) (h0 : 0 ≤ a) (h1 : a ≤ 120) (hi : i < 4) : askRange (askM K a (i + 1)) := by
  have hp : (0 : Int) < 2 ^ (2 * (i + 1)) := Int.pow_pos (by decide)
  have hI : nI (i + 1) = ((i + 1 : Nat) : Int) := rfl
  simp only [askM, askRange, hI]
  omega
theorem carsM_in {K : Int} (h : 0 ≤ K) : 1 ≤ carsM K ∧ carsM K ≤ 4 := by
  rw [carsM]
  omega
theorem turnM_len (nums : List Int) (n : Int) : (turnM nums n).length = carsM (modS n 1073741824) := asksM_len _ _ _
theorem turnM_ok (nums : List Int) (n : Int) : TurnOk (turnM nums n) ∧ 1 ≤ (turnM nums n).length ∧ (turnM nums n).length ≤ 4 := by
  have hK := modS_in n (show (0 : Int) < 1073741824 by decide)
  have hm := madeM_ok nums
  have hl := carsM_in hK.1
  rw [turnM_len]
  refine ⟨⟨?_, ?_, ?_, ?_, by rw [turnM_len]; omega⟩, hl⟩
  · intro x hx
    rw [turnM, asksM, List.mem_map] at hx
    obtain ⟨i, hi, rfl⟩ := hx
    rw [List.mem_range] at hi
    exact askM_ok hK.1 hm.2.1 hm.2.2 (by omega)
  · intro x hx
    rw [turnM, asksM, List.mem_map] at hx
    obtain ⟨i, hi, rfl⟩ := hx
    rfl
  · intro i h0 hi
    rw [turnM_len] at hi
    rw [turnM, asks_at hi, asks_at (show i - 1 < carsM (modS n 1073741824) by omega)]
    show ((i - 1 + 1 : Nat) : Int) < ((i + 1 : Nat) : Int)
    omega
  · intro i hi
    rw [turnM_len] at hi
    rw [turnM, asks_at hi, asks_at (show 0 < carsM (modS n 1073741824) by omega)]
    exact ⟨rfl, rfl, rfl⟩
theorem allR_ok {t : Table} {l : List Ask} (ht : tabE t = 0) (hl : TurnOk l) : allR t l = (choicesR t l [], 0) := by
  have : wrongE t l = 0 := by rw [wrongE, if_pos ht, hl.check]
  rw [allR, if_neg (by rw [this]; decide)]
theorem uR_ok {t : Table} {now cy : Int} (ht : tabE t = 0) (h0 : 0 ≤ now) (h1 : now ≤ 1099511627776) (h2 : 1 ≤ cy) : uR t now cy = (t.2.1.filter (urgentP now cy), 0) := by
  have : uE t now cy = 0 := by rw [uE, if_neg (by rw [ht]; decide), if_neg (by omega)]
  rw [uR, if_neg (by rw [this]; decide)]
/-- The hall calls among some choices' calls. -/
def takenL (cs : List Choice) : List Call := (cs.map byC).filter hallN
theorem takenL_snoc (cs : List Choice) (c : Choice) : takenL (cs ++ [c]) = nextT (takenL cs) c := by
  rw [takenL, List.map_append, List.filter_append, nextT]
  simp only [List.map_cons, List.map_nil]
  split
  · rename_i h; rw [List.filter_cons_of_pos h]; rfl
  · rename_i h; rw [List.filter_cons_of_neg h, List.filter_nil, List.append_nil]; rfl
theorem choice_at (t : Table) : ∀ (l : List Ask) (cs : List Choice) (i : Nat), i < l.length → (choicesR t l (takenL cs)).getD i zCh = goalC t (l.getD i zA) (takenL (cs ++ (choicesR t l (takenL cs)).take i))
  | [], _, i, h => by simp at h
  | a :: l, cs, 0, h => by simp [choicesR]
  | a :: l, cs, i + 1, h => by
    have ih := choice_at t l (cs ++ [goalC t a (takenL cs)]) i (by simp at h; omega)
    rw [takenL_snoc] at ih
    simp only [choicesR, List.getD_cons_succ, List.take_succ_cons]
    rw [ih, List.append_assoc]
    rfl
theorem firstOf_at {p : Call → Bool} : ∀ {l : List Call}, (firstOf p l).2 = true → ∃ i, i < l.length ∧ l.getD i zc = (firstOf p l).1 ∧ ∀ j, j < i → p (l.getD j zc) = false
  | [], h => by simp [firstOf] at h
  | c :: cs, h => by
    rw [firstOf] at h ⊢
    split
    · exact ⟨0, by simp, by simp, fun j hj => by omega⟩
    · rename_i hp
      rw [if_neg hp] at h
      obtain ⟨i, hi, h1, h2⟩ := firstOf_at h
      refine ⟨i + 1, by simp; omega, by simpa using h1, fun j hj => ?_⟩
      cases j with
      | zero => simpa using hp
      | succ j => simpa using h2 j (by omega)
theorem firstOf_all {p : Call → Bool} : ∀ {l : List Call}, (firstOf p l).2 = false → ∀ x ∈ l, p x = false
  | [], _, x, hx => by simp at hx
  | c :: cs, h, x, hx => by
    rw [firstOf] at h
    split at h
    · cases h
    · rename_i hp
      rcases List.mem_cons.1 hx with rfl | hx
      · simpa using hp
      · exact firstOf_all h x hx
/-- What is known of a choice that has a call. -/
structure Chose (t : Table) (a : Ask) (g : List Call) (c : Choice) : Prop where
  is : c.2.2.1 = true
  floor : c.2.1 = (byC c).2.1
  mem : byC c ∈ t.2.1
  own : hallB (byC c) = false → (byC c).2.2.1 = a.1
  hall : hallB (byC c) = true → urgB a.2.2.2.1 a.2.2.2.2.1 (byC c) = true ∨ ((∀ x ∈ t.2.1, urgB a.2.2.2.1 a.2.2.2.2.1 x = false) ∧ freeB g (byC c) = true ∧ ∃ i, i < t.2.1.length ∧ t.2.1.getD i zc = byC c ∧ ∀ j, j < i → freeB g (t.2.1.getD j zc) = false)
theorem hallA_is {l : List Call} {a : Ask} (h : (hallA l a).2 = true) : hallB (hallA l a).1 = true ∧ (urgB a.2.2.2.1 a.2.2.2.2.1 (hallA l a).1 = true ∨ ((∀ x ∈ l, urgB a.2.2.2.1 a.2.2.2.2.1 x = false) ∧ freeB (askL a) (hallA l a).1 = true ∧ ∃ i, i < l.length ∧ l.getD i zc = (hallA l a).1 ∧ ∀ j, j < i → freeB (askL a) (l.getD j zc) = false)) := by
  rw [hallA, hallS] at h ⊢
  by_cases hu : (firstOf (urgB a.2.2.2.1 a.2.2.2.2.1) l).2 = true
  · rw [if_pos hu]
    have := (firstOf_mem hu).2
    have h2 := this
    rw [urgB, Bool.and_eq_true] at h2
    exact ⟨h2.1, .inl this⟩
  · rw [if_neg hu] at h ⊢
    have := (firstOf_mem h).2
    have h2 := this
    rw [freeB, Bool.and_eq_true] at h2
    exact ⟨h2.1, .inr ⟨firstOf_all (by simpa using hu), this, firstOf_at h⟩⟩
theorem ownS_is {l : List Call} {car : Int} (h : (ownS l car).2 = true) : hallB (ownS l car).1 = false ∧ (ownS l car).1.2.2.1 = car := by
  have := (firstOf_mem h).2
  rw [ownB, Bool.and_eq_true] at this
  have h1 := this.1
  rw [Bool.not_eq_true'] at h1
  refine ⟨h1, ?_⟩
  have h2 := this.2
  rw [eqI_t] at h2
  exact h2
theorem chose {t : Table} {a : Ask} {g : List Call} (h : byC (goalC t a g) ≠ zc) : Chose t a g (goalC t a g) := by
  have hb : byC (goalC t a g) = (goalR t (withT a g)).2.2.1 := rfl
  have key : goalR t (withT a g) = ((byS t.2.1 (withT a g)).1.2.1, (byS t.2.1 (withT a g)).2, (byS t.2.1 (withT a g)).1, 0) := by
    rw [hb] at h
    rw [goalR] at h ⊢
    split
    · rename_i q; rw [if_pos q] at h; exact absurd rfl h
    · rename_i q
      rw [if_neg q] at h
      split
      · rename_i q; rw [if_pos q] at h; exact absurd rfl h
      · rename_i q
        rw [if_neg q] at h
        split
        · rename_i q; rw [if_pos q] at h; exact absurd rfl h
        · rename_i q
          rw [if_neg q] at h
          split
          · rename_i q; rw [if_pos q] at h; exact absurd rfl h
          · rfl
  have hg : goalC t a g = (a.1, (byS t.2.1 (withT a g)).1.2.1, (byS t.2.1 (withT a g)).2, (byS t.2.1 (withT a g)).1, ()) := by
    rw [goalC, key]
  rw [hg] at h ⊢
  have hs : (byS t.2.1 (withT a g)).2 = true := by
    cases q : (byS t.2.1 (withT a g)).2
    · rw [byS_no q] at h; exact absurd rfl h
    · rfl
  have hw : askL (withT a g) = g := rfl
  have hall : (hallA t.2.1 (withT a g)).2 = true → byS t.2.1 (withT a g) = hallA t.2.1 (withT a g) → Chose t a g (a.1, (byS t.2.1 (withT a g)).1.2.1, (byS t.2.1 (withT a g)).2, (byS t.2.1 (withT a g)).1, ()) := fun h1 h2 => by
    have := hallA_is h1
    rw [hw] at this
    refine ⟨hs, rfl, byS_mem hs, fun q => ?_, fun q => ?_⟩
    · rw [show byC (a.1, (byS t.2.1 (withT a g)).1.2.1, (byS t.2.1 (withT a g)).2, (byS t.2.1 (withT a g)).1, ()) = (byS t.2.1 (withT a g)).1 from rfl, h2, this.1] at q
      cases q
    · rw [show byC (a.1, (byS t.2.1 (withT a g)).1.2.1, (byS t.2.1 (withT a g)).2, (byS t.2.1 (withT a g)).1, ()) = (byS t.2.1 (withT a g)).1 from rfl, h2]
      exact this.2
  have own : (ownS t.2.1 a.1).2 = true → (byS t.2.1 (withT a g)).1 = (ownS t.2.1 a.1).1 → Chose t a g (a.1, (byS t.2.1 (withT a g)).1.2.1, (byS t.2.1 (withT a g)).2, (byS t.2.1 (withT a g)).1, ()) := fun h1 h2 => by
    have := ownS_is h1
    refine ⟨hs, rfl, byS_mem hs, fun q => ?_, fun q => ?_⟩
    · rw [show byC (a.1, (byS t.2.1 (withT a g)).1.2.1, (byS t.2.1 (withT a g)).2, (byS t.2.1 (withT a g)).1, ()) = (byS t.2.1 (withT a g)).1 from rfl, h2]
      exact this.2
    · rw [show byC (a.1, (byS t.2.1 (withT a g)).1.2.1, (byS t.2.1 (withT a g)).2, (byS t.2.1 (withT a g)).1, ()) = (byS t.2.1 (withT a g)).1 from rfl, h2, this.1] at q
      cases q
  have h0 := hs
  rw [byS] at h0
  by_cases m1 : (withT a g).2.1 = 1
  · rw [if_pos m1] at h0
    exact own h0 (by rw [byS, if_pos m1]; rfl)
  · rw [if_neg m1] at h0
    by_cases m0 : (withT a g).2.1 ≠ 0
    · rw [if_pos m0] at h0; cases h0
    · rw [if_neg m0] at h0
      by_cases q : (withT a g).2.2.1.tmod 2 = 0 ∧ (hallA t.2.1 (withT a g)).2 = true ∨ (ownS t.2.1 (withT a g).1).2 = false
      · rw [if_pos q] at h0
        exact hall h0 (by rw [byS, if_neg m1, if_neg m0, if_pos q])
      · rw [if_neg q] at h0
        have h5 : (ownS t.2.1 a.1).2 = true := by
          cases hh : (ownS t.2.1 a.1).2
          · exact absurd (.inr hh) q
          · rfl
        exact own h5 (by rw [byS, if_neg m1, if_neg m0, if_neg q]; rfl)
theorem tab_zc {t : Table} (h : tabE t = 0) : zc ∉ t.2.1 := fun hm => by
  have := tab_call h hm
  revert this
  decide
theorem call_at {l : List Call} {i j : Nat} {T : Int} (h : OkT l T) (hi : i < l.length) (hj : j < l.length) (he : l.getD i zc = l.getD j zc) : i = j := by
  rcases Nat.lt_trichotomy i j with q | q | q
  · have := List.pairwise_iff_getElem.1 h.dif i j hi hj q
    rw [← getD_get hi, ← getD_get hj, he] at this
    simp [sameB] at this
  · exact q
  · have := List.pairwise_iff_getElem.1 h.dif j i hj hi q
    rw [← getD_get hi, ← getD_get hj, he] at this
    simp [sameB] at this
theorem same_in {cs : List Call} {T : Int} (h : OkT cs T) {x y : Call} (hx : x ∈ cs) (hy : y ∈ cs) (hs : sameB x y = true) : x = y :=
  tab_dif (t := (32, cs, ())) (h.check ()) hx hy hs
theorem share_before {cs : List Call} {T : Int} (hM : OkT cs T) {chs : List Choice} (hmem : ∀ c ∈ chs, byC c = zc ∨ byC c ∈ cs) {ka : Nat} (hka : ka < cs.length) {b : Call} (hb : cs.getD ka zc = b) (hf : ∃ i, i < cs.length ∧ cs.getD i zc = b ∧ ∀ j, j < i → freeB (takenL chs) (cs.getD j zc) = false) : ∀ j, j < ka → (eqI (cs.getD j zc).1 3 || chs.any fun c => decide (byC c = cs.getD j zc)) = true := by
  obtain ⟨i, hi, h1, h2⟩ := hf
  obtain rfl := call_at hM hi hka (h1.trans hb.symm)
  intro j hj
  have := h2 j hj
  rw [freeB, Bool.and_eq_false_iff] at this
  rcases this with q | q
  · have : (cs.getD j zc).1 = 3 := by
      rw [hallB, decide_eq_false_iff_not] at q
      exact Decidable.not_not.1 q
    rw [this]; rfl
  · rw [Bool.not_eq_false', hasB, List.any_eq_true] at q
    obtain ⟨y, hy, hs⟩ := q
    rw [takenL, List.mem_filter, List.mem_map] at hy
    obtain ⟨⟨c, hc, rfl⟩, hN⟩ := hy
    have hyc : byC c ∈ cs := by
      rcases hmem c hc with e | e
      · rw [e] at hN; cases hN
      · exact e
    have := same_in hM hyc (getD_mem (show j < cs.length by omega)) hs
    rw [Bool.or_eq_true]
    exact .inr (List.any_eq_true.2 ⟨c, hc, decide_eq_true this⟩)
theorem share_dif {chs : List Choice} {b : Call} (hf : freeB (takenL chs) b = true) (hN : hallN b = true) : ∀ c ∈ chs, byC c ≠ b := by
  intro c hc e
  rw [freeB, Bool.and_eq_true, Bool.not_eq_true', hasB, List.any_eq_false] at hf
  have := hf.2 b (by rw [takenL, List.mem_filter, List.mem_map]; exact ⟨⟨c, hc, e⟩, hN⟩)
  simp [sameB] at this
theorem no_urgent {cs : List Call} {now cy : Int} (h : ∀ x ∈ cs, urgB now cy x = false) : cs.filter (urgentP now cy) = [] := by
  rw [List.filter_eq_nil_iff]
  intro x hx hu
  have := h x hx
  rw [urgB, Bool.and_eq_false_iff] at this
  rw [urgentP] at hu
  rcases this with e | e <;> rw [e] at hu <;> simp at hu
theorem any_step {cs : List Choice} (p : Choice → Bool) {i : Nat} (h : i < cs.length) : (cs.take (i + 1)).any p = ((cs.take i).any p || p (cs.getD i zCh)) := by
  rw [List.take_add_one, List.getElem?_eq_getElem h, List.any_append, List.getD_eq_getElem?_getD, List.getElem?_eq_getElem h]
  simp
theorem OkT.filter {l : List Call} {T : Int} (h : OkT l T) (p : Call → Bool) : OkT (l.filter p) T :=
  ⟨fun c hc => h.ok c (List.mem_filter.1 hc).1, fun c hc => h.late c (List.mem_filter.1 hc).1, h.srt.filter p, h.dif.filter p, Nat.le_trans (List.length_filter_le _ _) h.len⟩
/-- A choice with a goal that can be served. -/
def fitC (c : Choice) : Prop := c.2.2.1 = true → 0 ≤ c.2.1 ∧ c.2.1 < 64 ∧ 1 ≤ c.1 ∧ c.1 ≤ 8
theorem serveR_ok {t : Table} {fl car : Int} (ht : tabE t = 0) (h : 0 ≤ fl ∧ fl < 64 ∧ 1 ≤ car ∧ car ≤ 8) : serveR t fl car = ((t.1, t.2.1.filter (fun y => !serveP fl car y), ()), t.2.1.filter (serveP fl car), 0) := by
  have : serveE t fl car = 0 := by rw [serveE, if_neg (by omega)]; exact ht
  rw [serveR, if_neg (by rw [this]; decide)]
/-- Which calls go when some choices are served. -/
def goesB (ch : List Choice) (y : Call) : Bool := ch.any fun c => c.2.2.1 && serveP c.2.1 c.1 y
theorem served_eq {T : Int} : ∀ (ch : List Choice) (l : List Call), OkT l T → (∀ c ∈ ch, fitC c) → servedR (32, l, ()) ch = (32, l.filter (fun y => !goesB ch y), ())
  | [], l, _, _ => by
    rw [servedR]
    congr 2
    exact (List.filter_eq_self.2 fun _ _ => rfl).symm
  | c :: ch, l, h, hf => by
    rw [servedR]
    by_cases hc : c.2.2.1 = true
    · have hx := hf c (by simp) hc
      rw [if_pos hc, serveR_ok (h.check ()) hx]
      simp only
      rw [served_eq ch _ (h.filter _) (fun x hx => hf x (by simp [hx])), List.filter_filter]
      congr 3
      funext y
      simp only [goesB, List.any_cons, hc, Bool.true_and, Bool.not_or]
      rw [Bool.and_comm]
    · rw [if_neg hc, served_eq ch l h (fun x hx => hf x (by simp [hx]))]
      congr 3
      funext y
      rw [Bool.not_eq_true] at hc
      simp only [goesB, List.any_cons, hc, Bool.false_and, Bool.false_or]
theorem goal_fit {t : Table} {a : Ask} {g : List Call} (ht : tabE t = 0) (ha : askRange a) : fitC (goalC t a g) := by
  intro hs
  obtain ⟨h1, h2, h3, h4, h5, h6, h7, h8, h9⟩ := ha
  have hg1 : (goalC t a g).2.2.1 = (goalR t (withT a g)).2.1 := rfl
  have hg2 : (goalC t a g).2.1 = (goalR t (withT a g)).1 := rfl
  have hg3 : (goalC t a g).1 = a.1 := rfl
  rw [hg3, hg2]
  rw [hg1] at hs
  rw [goalR] at hs ⊢
  split
  · rename_i q; rw [if_pos q] at hs; cases hs
  · rename_i q
    rw [if_neg q] at hs
    split
    · rename_i q; rw [if_pos q] at hs; cases hs
    · rename_i q
      rw [if_neg q] at hs
      split
      · have e : (withT a g).2.2.2.2.2.2.2.1 = a.2.2.2.2.2.2.2.1 := rfl
        simp only [e]
        omega
      · rename_i q
        rw [if_neg q] at hs
        split
        · have e : (withT a g).2.2.2.2.2.2.2.2.1 = a.2.2.2.2.2.2.2.2.1 := rfl
          simp only [e]
          omega
        · rename_i q
          rw [if_neg q] at hs
          have := kind0 (tab_call ht (byS_mem hs))
          simp only
          omega
theorem choices_fit {t : Table} (ht : tabE t = 0) : ∀ (l : List Ask) (g : List Call), (∀ a ∈ l, askRange a) → ∀ c ∈ choicesR t l g, fitC c
  | [], g, _, c, hc => by simp [choicesR] at hc
  | a :: l, g, h, c, hc => by
    rw [choicesR] at hc
    rcases List.mem_cons.1 hc with rfl | hc
    · exact goal_fit ht (h a (by simp))
    · exact choices_fit ht l _ (fun x hx => h x (by simp [hx])) c hc
theorem choices_take (t : Table) : ∀ (l : List Ask) (g : List Call) (k : Nat), choicesR t (l.take k) g = (choicesR t l g).take k
  | [], g, k => by simp [choicesR]
  | a :: l, g, 0 => by simp [choicesR]
  | a :: l, g, k + 1 => by
    simp only [List.take_succ_cons, choicesR]
    rw [choices_take t l]
theorem chose_gone {t : Table} {l : List Ask} {i : Nat} (hi : i < l.length) (hb : byC ((choicesR t l []).getD i zCh) ≠ zc) : goesB (choicesR t l []) (byC ((choicesR t l []).getD i zCh)) = true := by
  have hc := choice_at t l [] i hi
  rw [show takenL [] = [] from rfl, List.nil_append] at hc
  have hlen := choicesR_len t l []
  have hm : (choicesR t l []).getD i zCh ∈ choicesR t l [] := by
    rw [List.getD_eq_getElem?_getD, List.getElem?_eq_getElem (by omega)]
    exact List.getElem_mem _
  rw [goesB, List.any_eq_true]
  refine ⟨_, hm, ?_⟩
  rw [hc] at hb ⊢
  have := chose hb
  obtain ⟨k1, k2, k3, k4, k5⟩ := this
  have k6 : (goalC t (l.getD i zA) (takenL ((choicesR t l []).take i))).1 = (l.getD i zA).1 := rfl
  rw [k1, Bool.true_and, serveP, if_pos (by rw [eqI_t]; exact k2.symm), k6]
  split
  · rfl
  · rename_i q
    rw [eqI_t]
    exact k4 (by simpa using q)
theorem takenGo_ok : ∀ {g : List Call}, (∀ c ∈ g, callErr c = 0 ∧ hallB c = true) → takenGo g = 0
  | [], _ => rfl
  | c :: g, h => by
    have := h c (by simp)
    rw [takenGo, if_neg (by rw [this.1]; decide), if_neg (by rw [this.2]; decide)]
    exact takenGo_ok fun x hx => h x (by simp [hx])
theorem taken_ok {t : Table} (ht : tabE t = 0) {l : List Ask} (hT : TurnOk l) (i : Nat) (hi : i < l.length) : askErr (withT (l.getD i zA) (takenL ((choicesR t l []).take i))) = 0 := by
  have hr := hT.range _ (getA_mem hi)
  have hr2 : askRange (withT (l.getD i zA) (takenL ((choicesR t l []).take i))) := hr
  rw [askErr, if_neg (fun q => q hr2)]
  show takenErr (takenL ((choicesR t l []).take i)) = 0
  have hlen : (takenL ((choicesR t l []).take i)).length ≤ i := by
    refine Nat.le_trans (List.length_filter_le _ _) ?_
    rw [List.length_map, List.length_take]
    omega
  have := hT.len
  rw [takenErr, if_neg (by omega)]
  apply takenGo_ok
  intro c hc
  rw [takenL, List.mem_filter, List.mem_map] at hc
  obtain ⟨⟨x, hx, rfl⟩, hN⟩ := hc
  rcases choices_by t l [] x (List.mem_of_mem_take hx) with e | e
  · rw [e] at hN; cases hN
  · have h0 := tab_call ht e
    exact ⟨h0, by rw [← hallN_B h0]; exact hN⟩
/-- An ask that takes hall calls. -/
def ableA (a : Ask) : Prop := a.2.1 = 0 ∧ a.2.2.2.2.2.1 ≤ a.2.2.2.2.2.2.1
theorem able_by {t : Table} (ht : tabE t = 0) {l : List Ask} (hT : TurnOk l) {i : Nat} (hi : i < l.length) (ha : ableA (l.getD i zA)) (h2 : (l.getD i zA).2.2.1.tmod 2 = 0) (hh : (hallA t.2.1 (withT (l.getD i zA) (takenL ((choicesR t l []).take i)))).2 = true) : byC ((choicesR t l []).getD i zCh) = (hallA t.2.1 (withT (l.getD i zA) (takenL ((choicesR t l []).take i)))).1 := by
  have hc := choice_at t l [] i hi
  rw [show takenL [] = [] from rfl, List.nil_append] at hc
  have he := taken_ok ht hT i hi
  obtain ⟨g, hg⟩ : ∃ g, takenL ((choicesR t l []).take i) = g := ⟨_, rfl⟩
  rw [hg] at hc he hh ⊢
  obtain ⟨a, haa⟩ : ∃ a, l.getD i zA = a := ⟨_, rfl⟩
  rw [haa] at hc he hh ha h2 ⊢
  rw [hc]
  show (goalR t (withT a g)).2.2.1 = _
  have hae : asksE t (withT a g) = 0 := by rw [asksE, if_neg (by rw [show (tabCheck t).1 = 0 from ht]; decide)]; exact he
  have m0 : (withT a g).2.1 = 0 := ha.1
  have lf : ¬ (withT a g).2.2.2.2.2.2.1 < (withT a g).2.2.2.2.2.1 := by have := ha.2; exact fun q => by have q : a.2.2.2.2.2.2.1 < a.2.2.2.2.2.1 := q; omega
  rw [goalR, if_neg (by rw [hae]; decide), if_neg (by rw [m0]; decide), if_neg lf, if_neg (by rw [m0]; decide)]
  simp only
  rw [byS, if_neg (by rw [m0]; decide), if_neg (by rw [m0]; decide), if_pos (.inl ⟨h2, hh⟩)]
theorem firstOf_filt {p : Call → Bool} : ∀ {l : List Call} {x : Call} {xs : List Call}, l.filter p = x :: xs → firstOf p l = (x, true)
  | [], _, _, h => by simp at h
  | c :: cs, x, xs, h => by
    rw [firstOf]
    split
    · rename_i q
      rw [List.filter_cons_of_pos q] at h
      cases h
      rfl
    · rename_i q
      rw [List.filter_cons_of_neg q] at h
      exact firstOf_filt h
theorem firstOf_some {p : Call → Bool} : ∀ {l : List Call} {x : Call}, x ∈ l → p x = true → (firstOf p l).2 = true
  | [], _, h, _ => by simp at h
  | c :: cs, x, h, hp => by
    rw [firstOf]
    split
    · rfl
    · rename_i q
      rcases List.mem_cons.1 h with rfl | h
      · exact absurd hp q
      · exact firstOf_some h hp
theorem urgP_B {c : Call} (h : callErr c = 0) {now cy : Int} (h0 : 0 ≤ now) (h1 : now ≤ 1099511627776) (h2 : 1 ≤ cy) : urgentP now cy c = urgB now cy c := by
  have hk := kind0 h
  have hw : IntKind.i64.wrap (now - c.2.2.2.1) = now - c.2.2.2.1 := w64 (by omega) (by omega)
  rw [urgentP, urgB, hw]
  cases hallB c
  · simp
  · by_cases q : c.2.2.2.1 ≤ now
    · have e1 : leI c.2.2.2.1 now = true := by rw [leI_t]; exact q
      simp [e1]
    · have e1 : leI c.2.2.2.1 now = false := by rw [leI_f]; exact q
      have e2 : leI cy (now - c.2.2.2.1) = false := by rw [leI_f]; omega
      simp [e1, e2]
theorem serves_urgent {t : Table} (ht : tabE t = 0) {l : List Ask} (hT : TurnOk l) {i : Nat} (hi : i < l.length) (ha : ableA (l.getD i zA)) (h2 : (l.getD i zA).2.2.1.tmod 2 = 0) {u : Call} {us : List Call} (hu : t.2.1.filter (urgentP (l.getD i zA).2.2.2.1 (l.getD i zA).2.2.2.2.1) = u :: us) : goesB (choicesR t l []) u = true := by
  have hr := hT.range _ (getA_mem hi)
  have hf : t.2.1.filter (urgB (l.getD i zA).2.2.2.1 (l.getD i zA).2.2.2.2.1) = u :: us := by
    rw [← hu]
    refine List.filter_congr fun x hx => ?_
    exact (urgP_B (tab_call ht hx) (by have := hr.2.2.2.1; omega) (by have := hr.2.2.2.1; omega) (by have := hr.2.2.2.2.1; omega)).symm
  have h1 := firstOf_filt hf
  have hA : hallA t.2.1 (withT (l.getD i zA) (takenL ((choicesR t l []).take i))) = (u, true) := by
    rw [hallA, hallS]
    have e1 : firstOf (urgB (withT (l.getD i zA) (takenL ((choicesR t l []).take i))).2.2.2.1 (withT (l.getD i zA) (takenL ((choicesR t l []).take i))).2.2.2.2.1) t.2.1 = (u, true) := h1
    rw [e1]
    rfl
  have hb := able_by ht hT hi ha h2 (by rw [hA])
  rw [hA] at hb
  simp only at hb
  have hm : u ∈ t.2.1 := by
    have : u ∈ t.2.1.filter (urgB (l.getD i zA).2.2.2.1 (l.getD i zA).2.2.2.2.1) := by rw [hf]; simp
    exact (List.mem_filter.1 this).1
  have := chose_gone (t := t) (l := l) hi (by rw [hb]; intro e; rw [e] at hm; exact tab_zc ht hm)
  rw [hb] at this
  exact this
theorem serves_hall {t : Table} (ht : tabE t = 0) {l : List Ask} (hT : TurnOk l) {i : Nat} (hi : i < l.length) (ha : ableA (l.getD i zA)) (h2 : (l.getD i zA).2.2.1.tmod 2 = 0) {x : Call} (hx : x ∈ t.2.1) (hxh : hallB x = true) : ∃ y ∈ t.2.1, hallB y = true ∧ goesB (choicesR t l []) y = true := by
  by_cases hh : (hallA t.2.1 (withT (l.getD i zA) (takenL ((choicesR t l []).take i)))).2 = true
  · have hb := able_by ht hT hi ha h2 hh
    have h3 := (hallA_is hh).1
    have hne : byC ((choicesR t l []).getD i zCh) ≠ zc := by
      have hm : (hallA t.2.1 (withT (l.getD i zA) (takenL ((choicesR t l []).take i)))).1 ∈ t.2.1 := hallS_mem hh
      rw [hb]; intro e; rw [e] at hm; exact tab_zc ht hm
    refine ⟨byC ((choicesR t l []).getD i zCh), ?_, by rw [hb]; exact h3, chose_gone hi hne⟩
    rw [hb]
    exact hallS_mem hh
  · have hf : (firstOf (freeB (takenL ((choicesR t l []).take i))) t.2.1).2 = false := by
      rw [hallA, hallS] at hh
      split at hh
      · rename_i q; exact absurd q hh
      · rw [Bool.not_eq_true] at hh; exact hh
    have := firstOf_all hf x hx
    rw [freeB, hxh, Bool.true_and, Bool.not_eq_false', hasB, List.any_eq_true] at this
    obtain ⟨y, hy, hs⟩ := this
    rw [takenL, List.mem_filter, List.mem_map] at hy
    obtain ⟨⟨c, hc, rfl⟩, hN⟩ := hy
    have hyc : byC c ∈ t.2.1 := by
      rcases choices_by t l [] c (List.mem_of_mem_take hc) with e | e
      · rw [e] at hN; cases hN
      · exact e
    have e := tab_dif ht hyc hx hs
    obtain ⟨j, hj, hcj⟩ := List.getElem_of_mem (List.mem_of_mem_take hc)
    have hlen := choicesR_len t l []
    have hcd : (choicesR t l []).getD j zCh = c := by rw [List.getD_eq_getElem?_getD, List.getElem?_eq_getElem hj, hcj]; rfl
    have hg := chose_gone (t := t) (l := l) (i := j) (by omega) (by rw [hcd]; intro e; rw [e] at hN; cases hN)
    rw [hcd, e] at hg
    exact ⟨x, hx, hxh, hg⟩
end Go.Sx.Ytaijdhocmjnopaa

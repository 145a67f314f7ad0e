/- Modes: Text. -/
import Derived.Test.YtengkdmlnnehgaaM12
namespace Go.Sx.Ytengkdmlnnehgaa
open Go Go.Sx Go.Proofs
set_option linter.unusedVariables false
set_option linter.unusedSimpArgs false
set_option maxRecDepth 100000

abbrev U8 : Kd := .int .u8
/-- The blocks of Text: the modes, the builder, its bytes. -/
def hT (c : Int) (a b d : List Int) (s : ByteArray) : List Blk :=
  [.box 34 [.int .i64 (.t fun _ => c), .ro I64 fun _ => a, .ro I64 fun _ => b, .ro I64 fun _ => d], .box 66 [.ptr 1 0, .sl 2 1 (.l 0) (.t fun _ => s.size)], .row 5 U8 (fun _ => bytesI s)]
theorem bytesI_app (s t : ByteArray) : bytesI (s ++ t) = bytesI s ++ bytesI t := by
  simp [bytesI, ByteArray.data_append]
theorem bytesOf_I (s : ByteArray) : bytesOf (bytesI s) = s := by
  apply ByteArray.ext
  simp [bytesOf, bytesI, List.map_map, Function.comp_def]
theorem bytesI_byte {s : ByteArray} {n : Int} (h : n ∈ bytesI s) : 0 ≤ n ∧ n < 256 := by
  simp only [bytesI, List.mem_map] at h
  obtain ⟨b, _, rfl⟩ := h
  have := b.toNat_lt
  omega
def S30 : List AV → Option FOut := sigSpec [ModesK] [.str, I64] (fun x : Modes × Unit => ((textS x.1).1, (textS x.1).2, ())) (fun _ => True)
theorem fn30 : FnOk Try.prog 30 S30 := by
  refine fn_ofB (rs := [.tmp 2, .tmp 3]) (env [(22, S22)] ⟨fn22, trivial⟩) Try.func30 (by kernel_rfl) rfl rfl Try.ntmps30 ?_
  rintro ⟨⟨(c : Int), ⟨(a : List Int), (b : List Int), (d : List Int), u⟩, u1⟩, u2⟩ _ G hG hB hQ
  have hB := GB.of hB
  refine AM.run2 hG 100 (by cbv) (by (simp only [sxs, sxb, and_self, and_true, true_and, implies_true, imp_self, bne_eq_false_iff_eq, Nat.zero_add, Nat.le_refl, Int.toNat_natCast, Int.ofNat_lt, Int.natCast_nonneg, decide_eq_true_eq, decide_eq_false_iff_not, bne_iff_ne, ne_eq]; try dsimp only [Kd.T, Kds.T])) ?_
  refine AM.case 13 rfl (fun h => ?_) (fun h => ?_) <;> (simp only [sxs, sxb, and_self, and_true, true_and, implies_true, imp_self, bne_eq_false_iff_eq, Nat.zero_add, Nat.le_refl, Int.toNat_natCast, Int.ofNat_lt, Int.natCast_nonneg, decide_eq_true_eq, decide_eq_false_iff_not, bne_iff_ne, ne_eq] at h; try dsimp only [Kd.T, Kds.T] at h)
  · refine AM.run2 hG 100 (by cbv) (by (simp only [sxs, sxb, and_self, and_true, true_and, implies_true, imp_self, bne_eq_false_iff_eq, Nat.zero_add, Nat.le_refl, Int.toNat_natCast, Int.ofNat_lt, Int.natCast_nonneg, decide_eq_true_eq, decide_eq_false_iff_not, bne_iff_ne, ne_eq]; try dsimp only [Kd.T, Kds.T])) ?_
    refine AM.ret2 hG (by cbv) (by (simp only [sxs, sxb, and_self, and_true, true_and, implies_true, imp_self, bne_eq_false_iff_eq, Nat.zero_add, Nat.le_refl, Int.toNat_natCast, Int.ofNat_lt, Int.natCast_nonneg, decide_eq_true_eq, decide_eq_false_iff_not, bne_iff_ne, ne_eq]; try dsimp only [Kd.T, Kds.T])) (hQ _ _ (FinRo.of (by cbv) (by cbv) ?_ ?_))
    · (simp only [sxs, sxb, and_self, and_true, true_and, implies_true, imp_self, bne_eq_false_iff_eq, Nat.zero_add, Nat.le_refl, Int.toNat_natCast, Int.ofNat_lt, Int.natCast_nonneg, decide_eq_true_eq, decide_eq_false_iff_not, bne_iff_ne, ne_eq]; try dsimp only [Kd.T, Kds.T])
    try (simp only [sxs, sxb, and_self, and_true, true_and, implies_true, imp_self, bne_eq_false_iff_eq, Nat.zero_add, Nat.le_refl, Int.toNat_natCast, Int.ofNat_lt, Int.natCast_nonneg, decide_eq_true_eq, decide_eq_false_iff_not, bne_iff_ne, ne_eq]; try dsimp only [Kd.T, Kds.T])
    simp only [textS, if_neg h, and_true]
    rfl
  obtain ⟨h6, h7, ⟨h8, h9, h10⟩, hk⟩ := check0 h
  simp only [kindsOk, Bool.and_eq_true] at h6 h7 h8 h9 h10 hk
  obtain ⟨⟨k0, k1⟩, k2⟩ := hk
  have hletter : ∀ {l : List Int} {j : Nat}, l.all validS = true → j < l.length → 0 ≤ l.getD j 0 ∧ l.getD j 0 ≤ 3 := by
    intro l j hl hj
    rw [List.all_eq_true] at hl
    have := hl (l.getD j 0) (by rw [List.getD_eq_getElem?_getD, List.getElem?_eq_getElem hj]; exact List.getElem_mem hj)
    simpa [validS] using this
  refine AM.run2 hG 100 (by cbv) (by (simp only [sxs, sxb, and_self, and_true, true_and, implies_true, imp_self, bne_eq_false_iff_eq, Nat.zero_add, Nat.le_refl, Int.toNat_natCast, Int.ofNat_lt, Int.natCast_nonneg, decide_eq_true_eq, decide_eq_false_iff_not, bne_iff_ne, ne_eq]; try dsimp only [Kd.T, Kds.T])) ?_
  refine AM.unroll ?_
  refine AM.run2 hG 100 (by cbv) ?_ ?_
  · (simp only [sxs, sxb, and_self, and_true, true_and, implies_true, imp_self, bne_eq_false_iff_eq, Nat.zero_add, Nat.le_refl, Int.toNat_natCast, Int.ofNat_lt, Int.natCast_nonneg, decide_eq_true_eq, decide_eq_false_iff_not, bne_iff_ne, ne_eq]; try dsimp only [Kd.T, Kds.T])
  obtain ⟨Ta, hTa⟩ : ∃ T : Nat → ByteArray, ∀ j, T j = txt ByteArray.empty (a.take j) := ⟨_, fun _ => rfl⟩
  have sa0 : Ta 0 = ByteArray.empty := by rw [hTa]; rfl
  have sa1 : ∀ j, j < a.length → Ta (j + 1) = Ta j ++ letter (a.getD j 0) := fun j h => by rw [hTa, hTa]; exact txt_step h
  have sa2 : ∀ j, (Ta j).size ≤ 32 := fun j => by rw [hTa]; have := txt_take (acc := ByteArray.empty) (l := a) j (by omega); have e3 : ByteArray.empty.size = 0 := rfl; omega
  have sa3 : ∀ j, a.length ≤ j → Ta j = txt ByteArray.empty a := fun j h => by rw [hTa, List.take_of_length_le h]
  refine AM.loopI (fun i : Nat => (frame 37 [(1, .ptr 0 0), (5, .ptr 1 0), (16, .agg [.ro I64 fun _ => a, .ro I64 fun _ => b, .ro I64 fun _ => d]), (17, .int .i64 (.l 0)), (25, .ro I64 fun _ => a), (26, .int .i64 (.t fun _ => nI a.length)), (27, .int .i64 (.t fun _ => nI (i)))], match i with | 0 => [.box 34 [.int .i64 (.t fun _ => c), .ro I64 fun _ => a, .ro I64 fun _ => b, .ro I64 fun _ => d], .box 66 [.nilp, .nils]] | j + 1 => hT c a b d (Ta (j + 1)))) (fun i => i ≤ a.length) (fun i => a.length - i) 0 (by simp) ?_ ?_ ?_
  · cbv; (simp only [sxs, sxb, and_self, and_true, true_and, implies_true, imp_self, bne_eq_false_iff_eq, Nat.zero_add, Nat.le_refl, Int.toNat_natCast, Int.ofNat_lt, Int.natCast_nonneg, decide_eq_true_eq, decide_eq_false_iff_not, bne_iff_ne, ne_eq]; try dsimp only [Kd.T, Kds.T]); first | rfl | exact ⟨rfl, rfl⟩
  · cbv; (simp only [sxs, sxb, and_self, and_true, true_and, implies_true, imp_self, bne_eq_false_iff_eq, Nat.zero_add, Nat.le_refl, Int.toNat_natCast, Int.ofNat_lt, Int.natCast_nonneg, decide_eq_true_eq, decide_eq_false_iff_not, bne_iff_ne, ne_eq]; try dsimp only [Kd.T, Kds.T])
  rintro (_ | j0) hj0 ih0
  · refine AM.run2 hG 100 (by cbv) (by (simp only [sxs, sxb, and_self, and_true, true_and, implies_true, imp_self, bne_eq_false_iff_eq, Nat.zero_add, Nat.le_refl, Int.toNat_natCast, Int.ofNat_lt, Int.natCast_nonneg, decide_eq_true_eq, decide_eq_false_iff_not, bne_iff_ne, ne_eq]; try dsimp only [Kd.T, Kds.T])) ?_
    refine AM.case 28 rfl (fun e0 => ?_) (fun e0 => ?_) <;> (simp only [sxs, sxb, and_self, and_true, true_and, implies_true, imp_self, bne_eq_false_iff_eq, Nat.zero_add, Nat.le_refl, Int.toNat_natCast, Int.ofNat_lt, Int.natCast_nonneg, decide_eq_true_eq, decide_eq_false_iff_not, bne_iff_ne, ne_eq] at e0; try dsimp only [Kd.T, Kds.T] at e0)
    rotate_left
    · exfalso; omega
    have e0 : 0 < a.length := by omega
    obtain ⟨hx1, hx2⟩ := hletter k0 e0
    have hw : IntKind.i64.wrap (a.getD 0 0 + 1) = a.getD 0 0 + 1 := w64 (by omega) (by omega)
    have hls := letter_size (a.getD 0 0)
    refine AM.run2 hG 100 (by cbv) ?_ ?_
    · (simp only [sxs, sxb, and_self, and_true, true_and, implies_true, imp_self, bne_eq_false_iff_eq, Nat.zero_add, Nat.le_refl, Int.toNat_natCast, Int.ofNat_lt, Int.natCast_nonneg, decide_eq_true_eq, decide_eq_false_iff_not, bne_iff_ne, ne_eq]; try dsimp only [Kd.T, Kds.T])
      omega
    refine AM.inline hG (by cbv) rfl (by cbv) Try.func44 (by kernel_rfl) rfl rfl Try.ntmps44 fun G1 hG1 hQ1 => ?_
    refine AM.run2 hG1 100 (by cbv) (by (simp only [sxs, sxb, and_self, and_true, true_and, implies_true, imp_self, bne_eq_false_iff_eq, Nat.zero_add, Nat.le_refl, Int.toNat_natCast, Int.ofNat_lt, Int.natCast_nonneg, decide_eq_true_eq, decide_eq_false_iff_not, bne_iff_ne, ne_eq]; try dsimp only [Kd.T, Kds.T])) ?_
    refine AM.inline hG1 (by cbv) rfl (by cbv) Try.func49 (by kernel_rfl) rfl rfl Try.ntmps49 fun G2 hG2 hQ2 => ?_
    refine AM.run2 hG2 100 (by cbv) ?_ ?_
    · (simp only [sxs, sxb, and_self, and_true, true_and, implies_true, imp_self, bne_eq_false_iff_eq, Nat.zero_add, Nat.le_refl, Int.toNat_natCast, Int.ofNat_lt, Int.natCast_nonneg, decide_eq_true_eq, decide_eq_false_iff_not, bne_iff_ne, ne_eq, hw, nosr_size, nosr_letter]; try dsimp only [Kd.T, Kds.T])
      omega
    refine AM.ret2 hG2 (by cbv) (by (simp only [sxs, sxb, and_self, and_true, true_and, implies_true, imp_self, bne_eq_false_iff_eq, Nat.zero_add, Nat.le_refl, Int.toNat_natCast, Int.ofNat_lt, Int.natCast_nonneg, decide_eq_true_eq, decide_eq_false_iff_not, bne_iff_ne, ne_eq]; try dsimp only [Kd.T, Kds.T])) (hQ2 _ _ ?_)
    refine AM.run2 hG1 100 (by cbv) (by (simp only [sxs, sxb, and_self, and_true, true_and, implies_true, imp_self, bne_eq_false_iff_eq, Nat.zero_add, Nat.le_refl, Int.toNat_natCast, Int.ofNat_lt, Int.natCast_nonneg, decide_eq_true_eq, decide_eq_false_iff_not, bne_iff_ne, ne_eq]; try dsimp only [Kd.T, Kds.T])) ?_
    refine AM.inline hG1 (by cbv) rfl (by cbv) Try.func48 (by kernel_rfl) rfl rfl Try.ntmps48 fun G3 hG3 hQ3 => ?_
    refine AM.run2 hG3 100 (by cbv) (by (simp only [sxs, sxb, and_self, and_true, true_and, implies_true, imp_self, bne_eq_false_iff_eq, Nat.zero_add, Nat.le_refl, Int.toNat_natCast, Int.ofNat_lt, Int.natCast_nonneg, decide_eq_true_eq, decide_eq_false_iff_not, bne_iff_ne, ne_eq]; try dsimp only [Kd.T, Kds.T])) ?_
    refine AM.inline hG3 (by cbv) rfl (by cbv) Try.func54 (by kernel_rfl) rfl rfl Try.ntmps54 fun G4 hG4 hQ4 => ?_
    refine AM.run2 hG4 100 (by cbv) (by (simp only [sxs, sxb, and_self, and_true, true_and, implies_true, imp_self, bne_eq_false_iff_eq, Nat.zero_add, Nat.le_refl, Int.toNat_natCast, Int.ofNat_lt, Int.natCast_nonneg, decide_eq_true_eq, decide_eq_false_iff_not, bne_iff_ne, ne_eq]; try dsimp only [Kd.T, Kds.T])) ?_
    refine AM.fall2 hG4 (by cbv) (by (simp only [sxs, sxb, and_self, and_true, true_and, implies_true, imp_self, bne_eq_false_iff_eq, Nat.zero_add, Nat.le_refl, Int.toNat_natCast, Int.ofNat_lt, Int.natCast_nonneg, decide_eq_true_eq, decide_eq_false_iff_not, bne_iff_ne, ne_eq]; try dsimp only [Kd.T, Kds.T])) (hQ4 _ _ ?_)
    refine AM.run2 hG3 100 (by cbv) ?_ ?_
    · (simp only [sxs, sxb, and_self, and_true, true_and, implies_true, imp_self, bne_eq_false_iff_eq, Nat.zero_add, Nat.le_refl, Int.toNat_natCast, Int.ofNat_lt, Int.natCast_nonneg, decide_eq_true_eq, decide_eq_false_iff_not, bne_iff_ne, ne_eq, hw, nosr_letter, bytesI_length, maxLen]; try dsimp only [Kd.T, Kds.T])
      omega
    refine AM.ret2 hG3 (by cbv) (by (simp only [sxs, sxb, and_self, and_true, true_and, implies_true, imp_self, bne_eq_false_iff_eq, Nat.zero_add, Nat.le_refl, Int.toNat_natCast, Int.ofNat_lt, Int.natCast_nonneg, decide_eq_true_eq, decide_eq_false_iff_not, bne_iff_ne, ne_eq]; try dsimp only [Kd.T, Kds.T])) (hQ3 _ _ ?_)
    refine AM.run2 hG1 100 (by cbv) (by (simp only [sxs, sxb, and_self, and_true, true_and, implies_true, imp_self, bne_eq_false_iff_eq, Nat.zero_add, Nat.le_refl, Int.toNat_natCast, Int.ofNat_lt, Int.natCast_nonneg, decide_eq_true_eq, decide_eq_false_iff_not, bne_iff_ne, ne_eq]; try dsimp only [Kd.T, Kds.T])) ?_
    refine AM.fall2 hG1 (by cbv) (by (simp only [sxs, sxb, and_self, and_true, true_and, implies_true, imp_self, bne_eq_false_iff_eq, Nat.zero_add, Nat.le_refl, Int.toNat_natCast, Int.ofNat_lt, Int.natCast_nonneg, decide_eq_true_eq, decide_eq_false_iff_not, bne_iff_ne, ne_eq]; try dsimp only [Kd.T, Kds.T])) (hQ1 _ _ ?_)
    refine AM.run2 hG 100 (by cbv) ?_ ?_
    · (simp only [sxs, sxb, and_self, and_true, true_and, implies_true, imp_self, bne_eq_false_iff_eq, Nat.zero_add, Nat.le_refl, Int.toNat_natCast, Int.ofNat_lt, Int.natCast_nonneg, decide_eq_true_eq, decide_eq_false_iff_not, bne_iff_ne, ne_eq]; try dsimp only [Kd.T, Kds.T])
    refine AM.ren hB [0, 1, 2] (by cbv) (by cbv) (by cbv) ?_ ?_ (ih0 1 (by omega) (by omega))
    · (simp only [sxs, sxb, and_self, and_true, true_and, implies_true, imp_self, bne_eq_false_iff_eq, Nat.zero_add, Nat.le_refl, Int.toNat_natCast, Int.ofNat_lt, Int.natCast_nonneg, decide_eq_true_eq, decide_eq_false_iff_not, bne_iff_ne, ne_eq]; try dsimp only [Kd.T, Kds.T])
      try rw [show IntKind.i64.wrap (0 + 1) = 1 from rfl]
      rfl
    · (simp only [sxs, sxb, and_self, and_true, true_and, implies_true, imp_self, bne_eq_false_iff_eq, Nat.zero_add, Nat.le_refl, Int.toNat_natCast, Int.ofNat_lt, Int.natCast_nonneg, decide_eq_true_eq, decide_eq_false_iff_not, bne_iff_ne, ne_eq, hw, nosr_letter, bytesI_length]; try dsimp only [Kd.T, Kds.T])
      rw [sa1 0 e0, sa0, ByteArray.empty_append]
      first | exact ⟨rfl, rfl⟩ | exact ⟨rfl, rfl, trivial⟩
  · refine AM.run2 hG 100 (by cbv) (by (simp only [sxs, sxb, and_self, and_true, true_and, implies_true, imp_self, bne_eq_false_iff_eq, Nat.zero_add, Nat.le_refl, Int.toNat_natCast, Int.ofNat_lt, Int.natCast_nonneg, decide_eq_true_eq, decide_eq_false_iff_not, bne_iff_ne, ne_eq]; try dsimp only [Kd.T, Kds.T])) ?_
    refine AM.case 28 rfl (fun e0 => ?_) (fun e0 => ?_) <;> (simp only [sxs, sxb, and_self, and_true, true_and, implies_true, imp_self, bne_eq_false_iff_eq, Nat.zero_add, Nat.le_refl, Int.toNat_natCast, Int.ofNat_lt, Int.natCast_nonneg, decide_eq_true_eq, decide_eq_false_iff_not, bne_iff_ne, ne_eq] at e0; try dsimp only [Kd.T, Kds.T] at e0)
    · have e0 : j0 + 1 < a.length := by omega
      have hs := sa2 (j0 + 1)
      obtain ⟨hx1, hx2⟩ := hletter k0 e0
      have hw : IntKind.i64.wrap (a.getD (j0 + 1) 0 + 1) = a.getD (j0 + 1) 0 + 1 := w64 (by omega) (by omega)
      have hls := letter_size (a.getD (j0 + 1) 0)
      refine AM.run2 hG 100 (by cbv) ?_ ?_
      · (simp only [sxs, sxb, and_self, and_true, true_and, implies_true, imp_self, bne_eq_false_iff_eq, Nat.zero_add, Nat.le_refl, Int.toNat_natCast, Int.ofNat_lt, Int.natCast_nonneg, decide_eq_true_eq, decide_eq_false_iff_not, bne_iff_ne, ne_eq]; try dsimp only [Kd.T, Kds.T])
        omega
      refine AM.inline hG (by cbv) rfl (by cbv) Try.func44 (by kernel_rfl) rfl rfl Try.ntmps44 fun G1 hG1 hQ1 => ?_
      refine AM.run2 hG1 100 (by cbv) (by (simp only [sxs, sxb, and_self, and_true, true_and, implies_true, imp_self, bne_eq_false_iff_eq, Nat.zero_add, Nat.le_refl, Int.toNat_natCast, Int.ofNat_lt, Int.natCast_nonneg, decide_eq_true_eq, decide_eq_false_iff_not, bne_iff_ne, ne_eq]; try dsimp only [Kd.T, Kds.T])) ?_
      refine AM.inline hG1 (by cbv) rfl (by cbv) Try.func49 (by kernel_rfl) rfl rfl Try.ntmps49 fun G2 hG2 hQ2 => ?_
      refine AM.run2 hG2 100 (by cbv) ?_ ?_
      · (simp only [sxs, sxb, and_self, and_true, true_and, implies_true, imp_self, bne_eq_false_iff_eq, Nat.zero_add, Nat.le_refl, Int.toNat_natCast, Int.ofNat_lt, Int.natCast_nonneg, decide_eq_true_eq, decide_eq_false_iff_not, bne_iff_ne, ne_eq, hw, nosr_size, nosr_letter]; try dsimp only [Kd.T, Kds.T])
        omega
      refine AM.ret2 hG2 (by cbv) (by (simp only [sxs, sxb, and_self, and_true, true_and, implies_true, imp_self, bne_eq_false_iff_eq, Nat.zero_add, Nat.le_refl, Int.toNat_natCast, Int.ofNat_lt, Int.natCast_nonneg, decide_eq_true_eq, decide_eq_false_iff_not, bne_iff_ne, ne_eq]; try dsimp only [Kd.T, Kds.T])) (hQ2 _ _ ?_)
      refine AM.run2 hG1 100 (by cbv) (by (simp only [sxs, sxb, and_self, and_true, true_and, implies_true, imp_self, bne_eq_false_iff_eq, Nat.zero_add, Nat.le_refl, Int.toNat_natCast, Int.ofNat_lt, Int.natCast_nonneg, decide_eq_true_eq, decide_eq_false_iff_not, bne_iff_ne, ne_eq]; try dsimp only [Kd.T, Kds.T])) ?_
      refine AM.inline hG1 (by cbv) rfl (by cbv) Try.func48 (by kernel_rfl) rfl rfl Try.ntmps48 fun G3 hG3 hQ3 => ?_
      refine AM.run2 hG3 100 (by cbv) (by (simp only [sxs, sxb, and_self, and_true, true_and, implies_true, imp_self, bne_eq_false_iff_eq, Nat.zero_add, Nat.le_refl, Int.toNat_natCast, Int.ofNat_lt, Int.natCast_nonneg, decide_eq_true_eq, decide_eq_false_iff_not, bne_iff_ne, ne_eq]; try dsimp only [Kd.T, Kds.T])) ?_
      refine AM.inline hG3 (by cbv) rfl (by cbv) Try.func54 (by kernel_rfl) rfl rfl Try.ntmps54 fun G4 hG4 hQ4 => ?_
      refine AM.run2 hG4 100 (by cbv) (by (simp only [sxs, sxb, and_self, and_true, true_and, implies_true, imp_self, bne_eq_false_iff_eq, Nat.zero_add, Nat.le_refl, Int.toNat_natCast, Int.ofNat_lt, Int.natCast_nonneg, decide_eq_true_eq, decide_eq_false_iff_not, bne_iff_ne, ne_eq]; try dsimp only [Kd.T, Kds.T])) ?_
      refine AM.fall2 hG4 (by cbv) (by (simp only [sxs, sxb, and_self, and_true, true_and, implies_true, imp_self, bne_eq_false_iff_eq, Nat.zero_add, Nat.le_refl, Int.toNat_natCast, Int.ofNat_lt, Int.natCast_nonneg, decide_eq_true_eq, decide_eq_false_iff_not, bne_iff_ne, ne_eq]; try dsimp only [Kd.T, Kds.T])) (hQ4 _ _ ?_)
      refine AM.run2 hG3 100 (by cbv) ?_ ?_
      · (simp only [sxs, sxb, and_self, and_true, true_and, implies_true, imp_self, bne_eq_false_iff_eq, Nat.zero_add, Nat.le_refl, Int.toNat_natCast, Int.ofNat_lt, Int.natCast_nonneg, decide_eq_true_eq, decide_eq_false_iff_not, bne_iff_ne, ne_eq, hw, nosr_letter, bytesI_length, maxLen]; try dsimp only [Kd.T, Kds.T])
        omega
      refine AM.ret2 hG3 (by cbv) (by (simp only [sxs, sxb, and_self, and_true, true_and, implies_true, imp_self, bne_eq_false_iff_eq, Nat.zero_add, Nat.le_refl, Int.toNat_natCast, Int.ofNat_lt, Int.natCast_nonneg, decide_eq_true_eq, decide_eq_false_iff_not, bne_iff_ne, ne_eq]; try dsimp only [Kd.T, Kds.T])) (hQ3 _ _ ?_)
      refine AM.run2 hG1 100 (by cbv) (by (simp only [sxs, sxb, and_self, and_true, true_and, implies_true, imp_self, bne_eq_false_iff_eq, Nat.zero_add, Nat.le_refl, Int.toNat_natCast, Int.ofNat_lt, Int.natCast_nonneg, decide_eq_true_eq, decide_eq_false_iff_not, bne_iff_ne, ne_eq]; try dsimp only [Kd.T, Kds.T])) ?_
      refine AM.fall2 hG1 (by cbv) (by (simp only [sxs, sxb, and_self, and_true, true_and, implies_true, imp_self, bne_eq_false_iff_eq, Nat.zero_add, Nat.le_refl, Int.toNat_natCast, Int.ofNat_lt, Int.natCast_nonneg, decide_eq_true_eq, decide_eq_false_iff_not, bne_iff_ne, ne_eq]; try dsimp only [Kd.T, Kds.T])) (hQ1 _ _ ?_)
      refine AM.run2 hG 100 (by cbv) ?_ ?_
      · (simp only [sxs, sxb, and_self, and_true, true_and, implies_true, imp_self, bne_eq_false_iff_eq, Nat.zero_add, Nat.le_refl, Int.toNat_natCast, Int.ofNat_lt, Int.natCast_nonneg, decide_eq_true_eq, decide_eq_false_iff_not, bne_iff_ne, ne_eq]; try dsimp only [Kd.T, Kds.T])
      refine AM.ren hB [0, 1, 3] (by cbv) (by cbv) (by cbv) ?_ ?_ (ih0 (j0 + 2) (by omega) (by omega))
      · (simp only [sxs, sxb, and_self, and_true, true_and, implies_true, imp_self, bne_eq_false_iff_eq, Nat.zero_add, Nat.le_refl, Int.toNat_natCast, Int.ofNat_lt, Int.natCast_nonneg, decide_eq_true_eq, decide_eq_false_iff_not, bne_iff_ne, ne_eq]; try dsimp only [Kd.T, Kds.T])
        exact w64s (by omega)
      · (simp only [sxs, sxb, and_self, and_true, true_and, implies_true, imp_self, bne_eq_false_iff_eq, Nat.zero_add, Nat.le_refl, Int.toNat_natCast, Int.ofNat_lt, Int.natCast_nonneg, decide_eq_true_eq, decide_eq_false_iff_not, bne_iff_ne, ne_eq, hw, nosr_letter, bytesI_length]; try dsimp only [Kd.T, Kds.T])
        rw [sa1 (j0 + 1) e0, ByteArray.size_append, bytesI_app]
        first | exact ⟨rfl, rfl⟩ | exact ⟨rfl, rfl, trivial⟩
    clear ih0
    have e3 := sa3 (j0 + 1) (by omega)
    obtain ⟨Tb, hTb⟩ : ∃ T : Nat → ByteArray, ∀ j, T j = txt (txt ByteArray.empty a ++ slash) (b.take j) := ⟨_, fun _ => rfl⟩
    have sb0 : Tb 0 = Ta (j0 + 1) ++ slash := by rw [hTb, e3]; rfl
    have sb1 : ∀ j, j < b.length → Tb (j + 1) = Tb j ++ letter (b.getD j 0) := fun j h => by rw [hTb, hTb]; exact txt_step h
    have sb2 : ∀ j, (Tb j).size ≤ 65 := fun j => by
      rw [hTb]
      have := txt_take (acc := (txt ByteArray.empty a ++ slash)) (l := b) j (by omega)
      have e4 := sa2 (j0 + 1)
      rw [e3] at e4
      rw [ByteArray.size_append, show slash.size = 1 from rfl] at this
      omega
    have sb3 : ∀ j, b.length ≤ j → Tb j = txt (txt ByteArray.empty a ++ slash) b := fun j h => by rw [hTb, List.take_of_length_le h]
    have hs := sa2 (j0 + 1)
    refine AM.run2 hG 100 (by cbv) ?_ ?_
    · (simp only [sxs, sxb, and_self, and_true, true_and, implies_true, imp_self, bne_eq_false_iff_eq, Nat.zero_add, Nat.le_refl, Int.toNat_natCast, Int.ofNat_lt, Int.natCast_nonneg, decide_eq_true_eq, decide_eq_false_iff_not, bne_iff_ne, ne_eq]; try dsimp only [Kd.T, Kds.T])
    refine AM.inline hG (by cbv) rfl (by cbv) Try.func44 (by kernel_rfl) rfl rfl Try.ntmps44 fun G1 hG1 hQ1 => ?_
    refine AM.run2 hG1 100 (by cbv) (by (simp only [sxs, sxb, and_self, and_true, true_and, implies_true, imp_self, bne_eq_false_iff_eq, Nat.zero_add, Nat.le_refl, Int.toNat_natCast, Int.ofNat_lt, Int.natCast_nonneg, decide_eq_true_eq, decide_eq_false_iff_not, bne_iff_ne, ne_eq]; try dsimp only [Kd.T, Kds.T])) ?_
    refine AM.inline hG1 (by cbv) rfl (by cbv) Try.func47 (by kernel_rfl) rfl rfl Try.ntmps47 fun G3 hG3 hQ3 => ?_
    refine AM.run2 hG3 100 (by cbv) (by (simp only [sxs, sxb, and_self, and_true, true_and, implies_true, imp_self, bne_eq_false_iff_eq, Nat.zero_add, Nat.le_refl, Int.toNat_natCast, Int.ofNat_lt, Int.natCast_nonneg, decide_eq_true_eq, decide_eq_false_iff_not, bne_iff_ne, ne_eq]; try dsimp only [Kd.T, Kds.T])) ?_
    refine AM.inline hG3 (by cbv) rfl (by cbv) Try.func54 (by kernel_rfl) rfl rfl Try.ntmps54 fun G4 hG4 hQ4 => ?_
    refine AM.run2 hG4 100 (by cbv) (by (simp only [sxs, sxb, and_self, and_true, true_and, implies_true, imp_self, bne_eq_false_iff_eq, Nat.zero_add, Nat.le_refl, Int.toNat_natCast, Int.ofNat_lt, Int.natCast_nonneg, decide_eq_true_eq, decide_eq_false_iff_not, bne_iff_ne, ne_eq]; try dsimp only [Kd.T, Kds.T])) ?_
    refine AM.fall2 hG4 (by cbv) (by (simp only [sxs, sxb, and_self, and_true, true_and, implies_true, imp_self, bne_eq_false_iff_eq, Nat.zero_add, Nat.le_refl, Int.toNat_natCast, Int.ofNat_lt, Int.natCast_nonneg, decide_eq_true_eq, decide_eq_false_iff_not, bne_iff_ne, ne_eq]; try dsimp only [Kd.T, Kds.T])) (hQ4 _ _ ?_)
    refine AM.run2 hG3 100 (by cbv) ?_ ?_
    · (simp only [sxs, sxb, and_self, and_true, true_and, implies_true, imp_self, bne_eq_false_iff_eq, Nat.zero_add, Nat.le_refl, Int.toNat_natCast, Int.ofNat_lt, Int.natCast_nonneg, decide_eq_true_eq, decide_eq_false_iff_not, bne_iff_ne, ne_eq, bytesI_length, maxLen]; try dsimp only [Kd.T, Kds.T])
      have e9 : (List.take 1 [(47 : Int)]).length = 1 := rfl
      omega
    refine AM.ret2 hG3 (by cbv) (by (simp only [sxs, sxb, and_self, and_true, true_and, implies_true, imp_self, bne_eq_false_iff_eq, Nat.zero_add, Nat.le_refl, Int.toNat_natCast, Int.ofNat_lt, Int.natCast_nonneg, decide_eq_true_eq, decide_eq_false_iff_not, bne_iff_ne, ne_eq]; try dsimp only [Kd.T, Kds.T])) (hQ3 _ _ ?_)
    refine AM.run2 hG1 100 (by cbv) (by (simp only [sxs, sxb, and_self, and_true, true_and, implies_true, imp_self, bne_eq_false_iff_eq, Nat.zero_add, Nat.le_refl, Int.toNat_natCast, Int.ofNat_lt, Int.natCast_nonneg, decide_eq_true_eq, decide_eq_false_iff_not, bne_iff_ne, ne_eq]; try dsimp only [Kd.T, Kds.T])) ?_
    refine AM.fall2 hG1 (by cbv) (by (simp only [sxs, sxb, and_self, and_true, true_and, implies_true, imp_self, bne_eq_false_iff_eq, Nat.zero_add, Nat.le_refl, Int.toNat_natCast, Int.ofNat_lt, Int.natCast_nonneg, decide_eq_true_eq, decide_eq_false_iff_not, bne_iff_ne, ne_eq]; try dsimp only [Kd.T, Kds.T])) (hQ1 _ _ ?_)
    refine AM.run2 hG 100 (by cbv) ?_ ?_
    · (simp only [sxs, sxb, and_self, and_true, true_and, implies_true, imp_self, bne_eq_false_iff_eq, Nat.zero_add, Nat.le_refl, Int.toNat_natCast, Int.ofNat_lt, Int.natCast_nonneg, decide_eq_true_eq, decide_eq_false_iff_not, bne_iff_ne, ne_eq]; try dsimp only [Kd.T, Kds.T])
    refine AM.ren hB [0, 1, 4] (fr' := frame 37 [(1, .ptr 0 0), (5, .ptr 1 0), (16, .agg [.ro I64 fun _ => a, .ro I64 fun _ => b, .ro I64 fun _ => d]), (17, .int .i64 (.l 1)), (25, .ro I64 fun _ => b), (26, .int .i64 (.t fun _ => nI b.length)), (27, .int .i64 (.t fun _ => nI (0)))]) (h' := hT c a b d (Tb 0)) (by cbv) (by cbv) (by cbv) ?_ ?_ ?_
    · (simp only [sxs, sxb, and_self, and_true, true_and, implies_true, imp_self, bne_eq_false_iff_eq, Nat.zero_add, Nat.le_refl, Int.toNat_natCast, Int.ofNat_lt, Int.natCast_nonneg, decide_eq_true_eq, decide_eq_false_iff_not, bne_iff_ne, ne_eq]; try dsimp only [Kd.T, Kds.T]); first | rfl | exact ⟨rfl, rfl⟩
    · (simp only [sxs, sxb, and_self, and_true, true_and, implies_true, imp_self, bne_eq_false_iff_eq, Nat.zero_add, Nat.le_refl, Int.toNat_natCast, Int.ofNat_lt, Int.natCast_nonneg, decide_eq_true_eq, decide_eq_false_iff_not, bne_iff_ne, ne_eq, bytesI_length]; try dsimp only [Kd.T, Kds.T])
      rw [sb0, ByteArray.size_append, bytesI_app]
      first | exact ⟨rfl, rfl⟩ | exact ⟨rfl, rfl, trivial⟩
    refine AM.loopI (fun i : Nat => (frame 37 [(1, .ptr 0 0), (5, .ptr 1 0), (16, .agg [.ro I64 fun _ => a, .ro I64 fun _ => b, .ro I64 fun _ => d]), (17, .int .i64 (.l 1)), (25, .ro I64 fun _ => b), (26, .int .i64 (.t fun _ => nI b.length)), (27, .int .i64 (.t fun _ => nI (i)))], hT c a b d (Tb i))) (fun i => i ≤ b.length) (fun i => b.length - i) 0 (by simp) ?_ ?_ ?_
    · cbv; (simp only [sxs, sxb, and_self, and_true, true_and, implies_true, imp_self, bne_eq_false_iff_eq, Nat.zero_add, Nat.le_refl, Int.toNat_natCast, Int.ofNat_lt, Int.natCast_nonneg, decide_eq_true_eq, decide_eq_false_iff_not, bne_iff_ne, ne_eq]; try dsimp only [Kd.T, Kds.T])
    · cbv; (simp only [sxs, sxb, and_self, and_true, true_and, implies_true, imp_self, bne_eq_false_iff_eq, Nat.zero_add, Nat.le_refl, Int.toNat_natCast, Int.ofNat_lt, Int.natCast_nonneg, decide_eq_true_eq, decide_eq_false_iff_not, bne_iff_ne, ne_eq]; try dsimp only [Kd.T, Kds.T])
    rintro j1 hj1 ih1
    refine AM.run2 hG 100 (by cbv) (by (simp only [sxs, sxb, and_self, and_true, true_and, implies_true, imp_self, bne_eq_false_iff_eq, Nat.zero_add, Nat.le_refl, Int.toNat_natCast, Int.ofNat_lt, Int.natCast_nonneg, decide_eq_true_eq, decide_eq_false_iff_not, bne_iff_ne, ne_eq]; try dsimp only [Kd.T, Kds.T])) ?_
    refine AM.case 28 rfl (fun e1 => ?_) (fun e1 => ?_) <;> (simp only [sxs, sxb, and_self, and_true, true_and, implies_true, imp_self, bne_eq_false_iff_eq, Nat.zero_add, Nat.le_refl, Int.toNat_natCast, Int.ofNat_lt, Int.natCast_nonneg, decide_eq_true_eq, decide_eq_false_iff_not, bne_iff_ne, ne_eq] at e1; try dsimp only [Kd.T, Kds.T] at e1)
    · have e1 : j1 < b.length := by omega
      have hs := sb2 j1
      obtain ⟨hx1, hx2⟩ := hletter k1 e1
      have hw : IntKind.i64.wrap (b.getD j1 0 + 1) = b.getD j1 0 + 1 := w64 (by omega) (by omega)
      have hls := letter_size (b.getD j1 0)
      refine AM.run2 hG 100 (by cbv) ?_ ?_
      · (simp only [sxs, sxb, and_self, and_true, true_and, implies_true, imp_self, bne_eq_false_iff_eq, Nat.zero_add, Nat.le_refl, Int.toNat_natCast, Int.ofNat_lt, Int.natCast_nonneg, decide_eq_true_eq, decide_eq_false_iff_not, bne_iff_ne, ne_eq]; try dsimp only [Kd.T, Kds.T])
        omega
      refine AM.inline hG (by cbv) rfl (by cbv) Try.func44 (by kernel_rfl) rfl rfl Try.ntmps44 fun G1 hG1 hQ1 => ?_
      refine AM.run2 hG1 100 (by cbv) (by (simp only [sxs, sxb, and_self, and_true, true_and, implies_true, imp_self, bne_eq_false_iff_eq, Nat.zero_add, Nat.le_refl, Int.toNat_natCast, Int.ofNat_lt, Int.natCast_nonneg, decide_eq_true_eq, decide_eq_false_iff_not, bne_iff_ne, ne_eq]; try dsimp only [Kd.T, Kds.T])) ?_
      refine AM.inline hG1 (by cbv) rfl (by cbv) Try.func49 (by kernel_rfl) rfl rfl Try.ntmps49 fun G2 hG2 hQ2 => ?_
      refine AM.run2 hG2 100 (by cbv) ?_ ?_
      · (simp only [sxs, sxb, and_self, and_true, true_and, implies_true, imp_self, bne_eq_false_iff_eq, Nat.zero_add, Nat.le_refl, Int.toNat_natCast, Int.ofNat_lt, Int.natCast_nonneg, decide_eq_true_eq, decide_eq_false_iff_not, bne_iff_ne, ne_eq, hw, nosr_size, nosr_letter]; try dsimp only [Kd.T, Kds.T])
        omega
      refine AM.ret2 hG2 (by cbv) (by (simp only [sxs, sxb, and_self, and_true, true_and, implies_true, imp_self, bne_eq_false_iff_eq, Nat.zero_add, Nat.le_refl, Int.toNat_natCast, Int.ofNat_lt, Int.natCast_nonneg, decide_eq_true_eq, decide_eq_false_iff_not, bne_iff_ne, ne_eq]; try dsimp only [Kd.T, Kds.T])) (hQ2 _ _ ?_)
      refine AM.run2 hG1 100 (by cbv) (by (simp only [sxs, sxb, and_self, and_true, true_and, implies_true, imp_self, bne_eq_false_iff_eq, Nat.zero_add, Nat.le_refl, Int.toNat_natCast, Int.ofNat_lt, Int.natCast_nonneg, decide_eq_true_eq, decide_eq_false_iff_not, bne_iff_ne, ne_eq]; try dsimp only [Kd.T, Kds.T])) ?_
      refine AM.inline hG1 (by cbv) rfl (by cbv) Try.func48 (by kernel_rfl) rfl rfl Try.ntmps48 fun G3 hG3 hQ3 => ?_
      refine AM.run2 hG3 100 (by cbv) (by (simp only [sxs, sxb, and_self, and_true, true_and, implies_true, imp_self, bne_eq_false_iff_eq, Nat.zero_add, Nat.le_refl, Int.toNat_natCast, Int.ofNat_lt, Int.natCast_nonneg, decide_eq_true_eq, decide_eq_false_iff_not, bne_iff_ne, ne_eq]; try dsimp only [Kd.T, Kds.T])) ?_
      refine AM.inline hG3 (by cbv) rfl (by cbv) Try.func54 (by kernel_rfl) rfl rfl Try.ntmps54 fun G4 hG4 hQ4 => ?_
      refine AM.run2 hG4 100 (by cbv) (by (simp only [sxs, sxb, and_self, and_true, true_and, implies_true, imp_self, bne_eq_false_iff_eq, Nat.zero_add, Nat.le_refl, Int.toNat_natCast, Int.ofNat_lt, Int.natCast_nonneg, decide_eq_true_eq, decide_eq_false_iff_not, bne_iff_ne, ne_eq]; try dsimp only [Kd.T, Kds.T])) ?_
      refine AM.fall2 hG4 (by cbv) (by (simp only [sxs, sxb, and_self, and_true, true_and, implies_true, imp_self, bne_eq_false_iff_eq, Nat.zero_add, Nat.le_refl, Int.toNat_natCast, Int.ofNat_lt, Int.natCast_nonneg, decide_eq_true_eq, decide_eq_false_iff_not, bne_iff_ne, ne_eq]; try dsimp only [Kd.T, Kds.T])) (hQ4 _ _ ?_)
      refine AM.run2 hG3 100 (by cbv) ?_ ?_
      · (simp only [sxs, sxb, and_self, and_true, true_and, implies_true, imp_self, bne_eq_false_iff_eq, Nat.zero_add, Nat.le_refl, Int.toNat_natCast, Int.ofNat_lt, Int.natCast_nonneg, decide_eq_true_eq, decide_eq_false_iff_not, bne_iff_ne, ne_eq, hw, nosr_letter, bytesI_length, maxLen]; try dsimp only [Kd.T, Kds.T])
        omega
      refine AM.ret2 hG3 (by cbv) (by (simp only [sxs, sxb, and_self, and_true, true_and, implies_true, imp_self, bne_eq_false_iff_eq, Nat.zero_add, Nat.le_refl, Int.toNat_natCast, Int.ofNat_lt, Int.natCast_nonneg, decide_eq_true_eq, decide_eq_false_iff_not, bne_iff_ne, ne_eq]; try dsimp only [Kd.T, Kds.T])) (hQ3 _ _ ?_)
      refine AM.run2 hG1 100 (by cbv) (by (simp only [sxs, sxb, and_self, and_true, true_and, implies_true, imp_self, bne_eq_false_iff_eq, Nat.zero_add, Nat.le_refl, Int.toNat_natCast, Int.ofNat_lt, Int.natCast_nonneg, decide_eq_true_eq, decide_eq_false_iff_not, bne_iff_ne, ne_eq]; try dsimp only [Kd.T, Kds.T])) ?_
      refine AM.fall2 hG1 (by cbv) (by (simp only [sxs, sxb, and_self, and_true, true_and, implies_true, imp_self, bne_eq_false_iff_eq, Nat.zero_add, Nat.le_refl, Int.toNat_natCast, Int.ofNat_lt, Int.natCast_nonneg, decide_eq_true_eq, decide_eq_false_iff_not, bne_iff_ne, ne_eq]; try dsimp only [Kd.T, Kds.T])) (hQ1 _ _ ?_)
      refine AM.run2 hG 100 (by cbv) ?_ ?_
      · (simp only [sxs, sxb, and_self, and_true, true_and, implies_true, imp_self, bne_eq_false_iff_eq, Nat.zero_add, Nat.le_refl, Int.toNat_natCast, Int.ofNat_lt, Int.natCast_nonneg, decide_eq_true_eq, decide_eq_false_iff_not, bne_iff_ne, ne_eq]; try dsimp only [Kd.T, Kds.T])
      refine AM.ren hB [0, 1, 3] (by cbv) (by cbv) (by cbv) ?_ ?_ (ih1 (j1 + 1) (by omega) (by omega))
      · (simp only [sxs, sxb, and_self, and_true, true_and, implies_true, imp_self, bne_eq_false_iff_eq, Nat.zero_add, Nat.le_refl, Int.toNat_natCast, Int.ofNat_lt, Int.natCast_nonneg, decide_eq_true_eq, decide_eq_false_iff_not, bne_iff_ne, ne_eq]; try dsimp only [Kd.T, Kds.T])
        exact w64s (by omega)
      · (simp only [sxs, sxb, and_self, and_true, true_and, implies_true, imp_self, bne_eq_false_iff_eq, Nat.zero_add, Nat.le_refl, Int.toNat_natCast, Int.ofNat_lt, Int.natCast_nonneg, decide_eq_true_eq, decide_eq_false_iff_not, bne_iff_ne, ne_eq, hw, nosr_letter, bytesI_length]; try dsimp only [Kd.T, Kds.T])
        rw [sb1 j1 e1, ByteArray.size_append, bytesI_app]
        first | exact ⟨rfl, rfl⟩ | exact ⟨rfl, rfl, trivial⟩
    clear ih1
    have e3 := sb3 j1 (by omega)
    obtain ⟨Td, hTd⟩ : ∃ T : Nat → ByteArray, ∀ j, T j = txt (txt (txt ByteArray.empty a ++ slash) b ++ slash) (d.take j) := ⟨_, fun _ => rfl⟩
    have sd0 : Td 0 = Tb j1 ++ slash := by rw [hTd, e3]; rfl
    have sd1 : ∀ j, j < d.length → Td (j + 1) = Td j ++ letter (d.getD j 0) := fun j h => by rw [hTd, hTd]; exact txt_step h
    have sd2 : ∀ j, (Td j).size ≤ 98 := fun j => by
      rw [hTd]
      have := txt_take (acc := (txt (txt ByteArray.empty a ++ slash) b ++ slash)) (l := d) j (by omega)
      have e4 := sb2 j1
      rw [e3] at e4
      rw [ByteArray.size_append, show slash.size = 1 from rfl] at this
      omega
    have sd3 : ∀ j, d.length ≤ j → Td j = txt (txt (txt ByteArray.empty a ++ slash) b ++ slash) d := fun j h => by rw [hTd, List.take_of_length_le h]
    have hs := sb2 j1
    refine AM.run2 hG 100 (by cbv) ?_ ?_
    · (simp only [sxs, sxb, and_self, and_true, true_and, implies_true, imp_self, bne_eq_false_iff_eq, Nat.zero_add, Nat.le_refl, Int.toNat_natCast, Int.ofNat_lt, Int.natCast_nonneg, decide_eq_true_eq, decide_eq_false_iff_not, bne_iff_ne, ne_eq]; try dsimp only [Kd.T, Kds.T])
    refine AM.inline hG (by cbv) rfl (by cbv) Try.func44 (by kernel_rfl) rfl rfl Try.ntmps44 fun G1 hG1 hQ1 => ?_
    refine AM.run2 hG1 100 (by cbv) (by (simp only [sxs, sxb, and_self, and_true, true_and, implies_true, imp_self, bne_eq_false_iff_eq, Nat.zero_add, Nat.le_refl, Int.toNat_natCast, Int.ofNat_lt, Int.natCast_nonneg, decide_eq_true_eq, decide_eq_false_iff_not, bne_iff_ne, ne_eq]; try dsimp only [Kd.T, Kds.T])) ?_
    refine AM.inline hG1 (by cbv) rfl (by cbv) Try.func47 (by kernel_rfl) rfl rfl Try.ntmps47 fun G3 hG3 hQ3 => ?_
    refine AM.run2 hG3 100 (by cbv) (by (simp only [sxs, sxb, and_self, and_true, true_and, implies_true, imp_self, bne_eq_false_iff_eq, Nat.zero_add, Nat.le_refl, Int.toNat_natCast, Int.ofNat_lt, Int.natCast_nonneg, decide_eq_true_eq, decide_eq_false_iff_not, bne_iff_ne, ne_eq]; try dsimp only [Kd.T, Kds.T])) ?_
    refine AM.inline hG3 (by cbv) rfl (by cbv) Try.func54 (by kernel_rfl) rfl rfl Try.ntmps54 fun G4 hG4 hQ4 => ?_
    refine AM.run2 hG4 100 (by cbv) (by (simp only [sxs, sxb, and_self, and_true, true_and, implies_true, imp_self, bne_eq_false_iff_eq, Nat.zero_add, Nat.le_refl, Int.toNat_natCast, Int.ofNat_lt, Int.natCast_nonneg, decide_eq_true_eq, decide_eq_false_iff_not, bne_iff_ne, ne_eq]; try dsimp only [Kd.T, Kds.T])) ?_
    refine AM.fall2 hG4 (by cbv) (by (simp only [sxs, sxb, and_self, and_true, true_and, implies_true, imp_self, bne_eq_false_iff_eq, Nat.zero_add, Nat.le_refl, Int.toNat_natCast, Int.ofNat_lt, Int.natCast_nonneg, decide_eq_true_eq, decide_eq_false_iff_not, bne_iff_ne, ne_eq]; try dsimp only [Kd.T, Kds.T])) (hQ4 _ _ ?_)
    refine AM.run2 hG3 100 (by cbv) ?_ ?_
    · (simp only [sxs, sxb, and_self, and_true, true_and, implies_true, imp_self, bne_eq_false_iff_eq, Nat.zero_add, Nat.le_refl, Int.toNat_natCast, Int.ofNat_lt, Int.natCast_nonneg, decide_eq_true_eq, decide_eq_false_iff_not, bne_iff_ne, ne_eq, bytesI_length, maxLen]; try dsimp only [Kd.T, Kds.T])
      have e9 : (List.take 1 [(47 : Int)]).length = 1 := rfl
      omega
    refine AM.ret2 hG3 (by cbv) (by (simp only [sxs, sxb, and_self, and_true, true_and, implies_true, imp_self, bne_eq_false_iff_eq, Nat.zero_add, Nat.le_refl, Int.toNat_natCast, Int.ofNat_lt, Int.natCast_nonneg, decide_eq_true_eq, decide_eq_false_iff_not, bne_iff_ne, ne_eq]; try dsimp only [Kd.T, Kds.T])) (hQ3 _ _ ?_)
    refine AM.run2 hG1 100 (by cbv) (by (simp only [sxs, sxb, and_self, and_true, true_and, implies_true, imp_self, bne_eq_false_iff_eq, Nat.zero_add, Nat.le_refl, Int.toNat_natCast, Int.ofNat_lt, Int.natCast_nonneg, decide_eq_true_eq, decide_eq_false_iff_not, bne_iff_ne, ne_eq]; try dsimp only [Kd.T, Kds.T])) ?_
    refine AM.fall2 hG1 (by cbv) (by (simp only [sxs, sxb, and_self, and_true, true_and, implies_true, imp_self, bne_eq_false_iff_eq, Nat.zero_add, Nat.le_refl, Int.toNat_natCast, Int.ofNat_lt, Int.natCast_nonneg, decide_eq_true_eq, decide_eq_false_iff_not, bne_iff_ne, ne_eq]; try dsimp only [Kd.T, Kds.T])) (hQ1 _ _ ?_)
    refine AM.run2 hG 100 (by cbv) ?_ ?_
    · (simp only [sxs, sxb, and_self, and_true, true_and, implies_true, imp_self, bne_eq_false_iff_eq, Nat.zero_add, Nat.le_refl, Int.toNat_natCast, Int.ofNat_lt, Int.natCast_nonneg, decide_eq_true_eq, decide_eq_false_iff_not, bne_iff_ne, ne_eq]; try dsimp only [Kd.T, Kds.T])
    refine AM.ren hB [0, 1, 4] (fr' := frame 37 [(1, .ptr 0 0), (5, .ptr 1 0), (16, .agg [.ro I64 fun _ => a, .ro I64 fun _ => b, .ro I64 fun _ => d]), (17, .int .i64 (.l 2)), (25, .ro I64 fun _ => d), (26, .int .i64 (.t fun _ => nI d.length)), (27, .int .i64 (.t fun _ => nI (0)))]) (h' := hT c a b d (Td 0)) (by cbv) (by cbv) (by cbv) ?_ ?_ ?_
    · (simp only [sxs, sxb, and_self, and_true, true_and, implies_true, imp_self, bne_eq_false_iff_eq, Nat.zero_add, Nat.le_refl, Int.toNat_natCast, Int.ofNat_lt, Int.natCast_nonneg, decide_eq_true_eq, decide_eq_false_iff_not, bne_iff_ne, ne_eq]; try dsimp only [Kd.T, Kds.T]); first | rfl | exact ⟨rfl, rfl⟩
    · (simp only [sxs, sxb, and_self, and_true, true_and, implies_true, imp_self, bne_eq_false_iff_eq, Nat.zero_add, Nat.le_refl, Int.toNat_natCast, Int.ofNat_lt, Int.natCast_nonneg, decide_eq_true_eq, decide_eq_false_iff_not, bne_iff_ne, ne_eq, bytesI_length]; try dsimp only [Kd.T, Kds.T])
      rw [sd0, ByteArray.size_append, bytesI_app]
      first | exact ⟨rfl, rfl⟩ | exact ⟨rfl, rfl, trivial⟩
    refine AM.loopI (fun i : Nat => (frame 37 [(1, .ptr 0 0), (5, .ptr 1 0), (16, .agg [.ro I64 fun _ => a, .ro I64 fun _ => b, .ro I64 fun _ => d]), (17, .int .i64 (.l 2)), (25, .ro I64 fun _ => d), (26, .int .i64 (.t fun _ => nI d.length)), (27, .int .i64 (.t fun _ => nI (i)))], hT c a b d (Td i))) (fun i => i ≤ d.length) (fun i => d.length - i) 0 (by simp) ?_ ?_ ?_
    · cbv; (simp only [sxs, sxb, and_self, and_true, true_and, implies_true, imp_self, bne_eq_false_iff_eq, Nat.zero_add, Nat.le_refl, Int.toNat_natCast, Int.ofNat_lt, Int.natCast_nonneg, decide_eq_true_eq, decide_eq_false_iff_not, bne_iff_ne, ne_eq]; try dsimp only [Kd.T, Kds.T])
    · cbv; (simp only [sxs, sxb, and_self, and_true, true_and, implies_true, imp_self, bne_eq_false_iff_eq, Nat.zero_add, Nat.le_refl, Int.toNat_natCast, Int.ofNat_lt, Int.natCast_nonneg, decide_eq_true_eq, decide_eq_false_iff_not, bne_iff_ne, ne_eq]; try dsimp only [Kd.T, Kds.T])
    rintro j2 hj2 ih2
    refine AM.run2 hG 100 (by cbv) (by (simp only [sxs, sxb, and_self, and_true, true_and, implies_true, imp_self, bne_eq_false_iff_eq, Nat.zero_add, Nat.le_refl, Int.toNat_natCast, Int.ofNat_lt, Int.natCast_nonneg, decide_eq_true_eq, decide_eq_false_iff_not, bne_iff_ne, ne_eq]; try dsimp only [Kd.T, Kds.T])) ?_
    refine AM.case 28 rfl (fun e2 => ?_) (fun e2 => ?_) <;> (simp only [sxs, sxb, and_self, and_true, true_and, implies_true, imp_self, bne_eq_false_iff_eq, Nat.zero_add, Nat.le_refl, Int.toNat_natCast, Int.ofNat_lt, Int.natCast_nonneg, decide_eq_true_eq, decide_eq_false_iff_not, bne_iff_ne, ne_eq] at e2; try dsimp only [Kd.T, Kds.T] at e2)
    · have e2 : j2 < d.length := by omega
      have hs := sd2 j2
      obtain ⟨hx1, hx2⟩ := hletter k2 e2
      have hw : IntKind.i64.wrap (d.getD j2 0 + 1) = d.getD j2 0 + 1 := w64 (by omega) (by omega)
      have hls := letter_size (d.getD j2 0)
      refine AM.run2 hG 100 (by cbv) ?_ ?_
      · (simp only [sxs, sxb, and_self, and_true, true_and, implies_true, imp_self, bne_eq_false_iff_eq, Nat.zero_add, Nat.le_refl, Int.toNat_natCast, Int.ofNat_lt, Int.natCast_nonneg, decide_eq_true_eq, decide_eq_false_iff_not, bne_iff_ne, ne_eq]; try dsimp only [Kd.T, Kds.T])
        omega
      refine AM.inline hG (by cbv) rfl (by cbv) Try.func44 (by kernel_rfl) rfl rfl Try.ntmps44 fun G1 hG1 hQ1 => ?_
      refine AM.run2 hG1 100 (by cbv) (by (simp only [sxs, sxb, and_self, and_true, true_and, implies_true, imp_self, bne_eq_false_iff_eq, Nat.zero_add, Nat.le_refl, Int.toNat_natCast, Int.ofNat_lt, Int.natCast_nonneg, decide_eq_true_eq, decide_eq_false_iff_not, bne_iff_ne, ne_eq]; try dsimp only [Kd.T, Kds.T])) ?_
      refine AM.inline hG1 (by cbv) rfl (by cbv) Try.func49 (by kernel_rfl) rfl rfl Try.ntmps49 fun G2 hG2 hQ2 => ?_
      refine AM.run2 hG2 100 (by cbv) ?_ ?_
      · (simp only [sxs, sxb, and_self, and_true, true_and, implies_true, imp_self, bne_eq_false_iff_eq, Nat.zero_add, Nat.le_refl, Int.toNat_natCast, Int.ofNat_lt, Int.natCast_nonneg, decide_eq_true_eq, decide_eq_false_iff_not, bne_iff_ne, ne_eq, hw, nosr_size, nosr_letter]; try dsimp only [Kd.T, Kds.T])
        omega
      refine AM.ret2 hG2 (by cbv) (by (simp only [sxs, sxb, and_self, and_true, true_and, implies_true, imp_self, bne_eq_false_iff_eq, Nat.zero_add, Nat.le_refl, Int.toNat_natCast, Int.ofNat_lt, Int.natCast_nonneg, decide_eq_true_eq, decide_eq_false_iff_not, bne_iff_ne, ne_eq]; try dsimp only [Kd.T, Kds.T])) (hQ2 _ _ ?_)
      refine AM.run2 hG1 100 (by cbv) (by (simp only [sxs, sxb, and_self, and_true, true_and, implies_true, imp_self, bne_eq_false_iff_eq, Nat.zero_add, Nat.le_refl, Int.toNat_natCast, Int.ofNat_lt, Int.natCast_nonneg, decide_eq_true_eq, decide_eq_false_iff_not, bne_iff_ne, ne_eq]; try dsimp only [Kd.T, Kds.T])) ?_
      refine AM.inline hG1 (by cbv) rfl (by cbv) Try.func48 (by kernel_rfl) rfl rfl Try.ntmps48 fun G3 hG3 hQ3 => ?_
      refine AM.run2 hG3 100 (by cbv) (by (simp only [sxs, sxb, and_self, and_true, true_and, implies_true, imp_self, bne_eq_false_iff_eq, Nat.zero_add, Nat.le_refl, Int.toNat_natCast, Int.ofNat_lt, Int.natCast_nonneg, decide_eq_true_eq, decide_eq_false_iff_not, bne_iff_ne, ne_eq]; try dsimp only [Kd.T, Kds.T])) ?_
      refine AM.inline hG3 (by cbv) rfl (by cbv) Try.func54 (by kernel_rfl) rfl rfl Try.ntmps54 fun G4 hG4 hQ4 => ?_
      refine AM.run2 hG4 100 (by cbv) (by (simp only [sxs, sxb, and_self, and_true, true_and, implies_true, imp_self, bne_eq_false_iff_eq, Nat.zero_add, Nat.le_refl, Int.toNat_natCast, Int.ofNat_lt, Int.natCast_nonneg, decide_eq_true_eq, decide_eq_false_iff_not, bne_iff_ne, ne_eq]; try dsimp only [Kd.T, Kds.T])) ?_
      refine AM.fall2 hG4 (by cbv) (by (simp only [sxs, sxb, and_self, and_true, true_and, implies_true, imp_self, bne_eq_false_iff_eq, Nat.zero_add, Nat.le_refl, Int.toNat_natCast, Int.ofNat_lt, Int.natCast_nonneg, decide_eq_true_eq, decide_eq_false_iff_not, bne_iff_ne, ne_eq]; try dsimp only [Kd.T, Kds.T])) (hQ4 _ _ ?_)
      refine AM.run2 hG3 100 (by cbv) ?_ ?_
      · (simp only [sxs, sxb, and_self, and_true, true_and, implies_true, imp_self, bne_eq_false_iff_eq, Nat.zero_add, Nat.le_refl, Int.toNat_natCast, Int.ofNat_lt, Int.natCast_nonneg, decide_eq_true_eq, decide_eq_false_iff_not, bne_iff_ne, ne_eq, hw, nosr_letter, bytesI_length, maxLen]; try dsimp only [Kd.T, Kds.T])
        omega
      refine AM.ret2 hG3 (by cbv) (by (simp only [sxs, sxb, and_self, and_true, true_and, implies_true, imp_self, bne_eq_false_iff_eq, Nat.zero_add, Nat.le_refl, Int.toNat_natCast, Int.ofNat_lt, Int.natCast_nonneg, decide_eq_true_eq, decide_eq_false_iff_not, bne_iff_ne, ne_eq]; try dsimp only [Kd.T, Kds.T])) (hQ3 _ _ ?_)
      refine AM.run2 hG1 100 (by cbv) (by (simp only [sxs, sxb, and_self, and_true, true_and, implies_true, imp_self, bne_eq_false_iff_eq, Nat.zero_add, Nat.le_refl, Int.toNat_natCast, Int.ofNat_lt, Int.natCast_nonneg, decide_eq_true_eq, decide_eq_false_iff_not, bne_iff_ne, ne_eq]; try dsimp only [Kd.T, Kds.T])) ?_
      refine AM.fall2 hG1 (by cbv) (by (simp only [sxs, sxb, and_self, and_true, true_and, implies_true, imp_self, bne_eq_false_iff_eq, Nat.zero_add, Nat.le_refl, Int.toNat_natCast, Int.ofNat_lt, Int.natCast_nonneg, decide_eq_true_eq, decide_eq_false_iff_not, bne_iff_ne, ne_eq]; try dsimp only [Kd.T, Kds.T])) (hQ1 _ _ ?_)
      refine AM.run2 hG 100 (by cbv) ?_ ?_
      · (simp only [sxs, sxb, and_self, and_true, true_and, implies_true, imp_self, bne_eq_false_iff_eq, Nat.zero_add, Nat.le_refl, Int.toNat_natCast, Int.ofNat_lt, Int.natCast_nonneg, decide_eq_true_eq, decide_eq_false_iff_not, bne_iff_ne, ne_eq]; try dsimp only [Kd.T, Kds.T])
      refine AM.ren hB [0, 1, 3] (by cbv) (by cbv) (by cbv) ?_ ?_ (ih2 (j2 + 1) (by omega) (by omega))
      · (simp only [sxs, sxb, and_self, and_true, true_and, implies_true, imp_self, bne_eq_false_iff_eq, Nat.zero_add, Nat.le_refl, Int.toNat_natCast, Int.ofNat_lt, Int.natCast_nonneg, decide_eq_true_eq, decide_eq_false_iff_not, bne_iff_ne, ne_eq]; try dsimp only [Kd.T, Kds.T])
        exact w64s (by omega)
      · (simp only [sxs, sxb, and_self, and_true, true_and, implies_true, imp_self, bne_eq_false_iff_eq, Nat.zero_add, Nat.le_refl, Int.toNat_natCast, Int.ofNat_lt, Int.natCast_nonneg, decide_eq_true_eq, decide_eq_false_iff_not, bne_iff_ne, ne_eq, hw, nosr_letter, bytesI_length]; try dsimp only [Kd.T, Kds.T])
        rw [sd1 j2 e2, ByteArray.size_append, bytesI_app]
        first | exact ⟨rfl, rfl⟩ | exact ⟨rfl, rfl, trivial⟩
    clear ih2
    have e3 := sd3 j2 (by omega)
    have hs := sd2 j2
    have hpos : 0 < (Td j2).size := by
      have e4 := sd0
      have e5 : txt (txt (txt ByteArray.empty a ++ slash) b ++ slash) d = Td j2 := e3.symm
      have e6 : ∀ (l : List Int) (s : ByteArray), s.size ≤ (txt s l).size := by
        intro l
        induction l with
        | nil => intro s; exact Nat.le_refl _
        | cons x l ih => intro s; have := ih (s ++ letter x); rw [ByteArray.size_append] at this; simp only [txt, List.foldl_cons] at this ⊢; omega
      have e7 := e6 d (txt (txt ByteArray.empty a ++ slash) b ++ slash)
      rw [e5, ByteArray.size_append, show slash.size = 1 from rfl] at e7
      omega
    refine AM.run2 hG 100 (by cbv) ?_ ?_
    · (simp only [sxs, sxb, and_self, and_true, true_and, implies_true, imp_self, bne_eq_false_iff_eq, Nat.zero_add, Nat.le_refl, Int.toNat_natCast, Int.ofNat_lt, Int.natCast_nonneg, decide_eq_true_eq, decide_eq_false_iff_not, bne_iff_ne, ne_eq]; try dsimp only [Kd.T, Kds.T])
    refine AM.inline hG (by cbv) rfl (by cbv) Try.func45 (by kernel_rfl) rfl rfl Try.ntmps45 fun G1 hG1 hQ1 => ?_
    refine AM.run2 hG1 100 (by cbv) ?_ ?_
    · (simp only [sxs, sxb, and_self, and_true, true_and, implies_true, imp_self, bne_eq_false_iff_eq, Nat.zero_add, Nat.le_refl, Int.toNat_natCast, Int.ofNat_lt, Int.natCast_nonneg, decide_eq_true_eq, decide_eq_false_iff_not, bne_iff_ne, ne_eq, bytesI_length]; try dsimp only [Kd.T, Kds.T])
      exact ⟨by omega, by omega, by omega, fun n hn => bytesI_byte hn⟩
    refine AM.ret2 hG1 (by cbv) (by (simp only [sxs, sxb, and_self, and_true, true_and, implies_true, imp_self, bne_eq_false_iff_eq, Nat.zero_add, Nat.le_refl, Int.toNat_natCast, Int.ofNat_lt, Int.natCast_nonneg, decide_eq_true_eq, decide_eq_false_iff_not, bne_iff_ne, ne_eq]; try dsimp only [Kd.T, Kds.T])) (hQ1 _ _ ?_)
    refine AM.run2 hG 100 (by cbv) ?_ ?_
    · (simp only [sxs, sxb, and_self, and_true, true_and, implies_true, imp_self, bne_eq_false_iff_eq, Nat.zero_add, Nat.le_refl, Int.toNat_natCast, Int.ofNat_lt, Int.natCast_nonneg, decide_eq_true_eq, decide_eq_false_iff_not, bne_iff_ne, ne_eq]; try dsimp only [Kd.T, Kds.T])
    refine AM.ret2 hG (by cbv) (by (simp only [sxs, sxb, and_self, and_true, true_and, implies_true, imp_self, bne_eq_false_iff_eq, Nat.zero_add, Nat.le_refl, Int.toNat_natCast, Int.ofNat_lt, Int.natCast_nonneg, decide_eq_true_eq, decide_eq_false_iff_not, bne_iff_ne, ne_eq]; try dsimp only [Kd.T, Kds.T])) (hQ _ _ (FinRo.of (by cbv) (by cbv) ?_ ?_))
    · (simp only [sxs, sxb, and_self, and_true, true_and, implies_true, imp_self, bne_eq_false_iff_eq, Nat.zero_add, Nat.le_refl, Int.toNat_natCast, Int.ofNat_lt, Int.natCast_nonneg, decide_eq_true_eq, decide_eq_false_iff_not, bne_iff_ne, ne_eq]; try dsimp only [Kd.T, Kds.T])
    try (simp only [sxs, sxb, and_self, and_true, true_and, implies_true, imp_self, bne_eq_false_iff_eq, Nat.zero_add, Nat.le_refl, Int.toNat_natCast, Int.ofNat_lt, Int.natCast_nonneg, decide_eq_true_eq, decide_eq_false_iff_not, bne_iff_ne, ne_eq]; try dsimp only [Kd.T, Kds.T])
    simp only [textS, if_pos h, and_true]
    rw [List.take_of_length_le (by rw [bytesI_length]; omega), bytesOf_I, e3]
end Go.Sx.Ytengkdmlnnehgaa

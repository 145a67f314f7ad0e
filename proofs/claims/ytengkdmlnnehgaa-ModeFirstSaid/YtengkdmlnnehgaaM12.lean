/- Modes: the reference's Text. -/
import Derived.Test.YtengkdmlnnehgaaM11
namespace Go.Sx.Ytengkdmlnnehgaa
open Go Go.Sx Go.Proofs
set_option linter.unusedVariables false
set_option linter.unusedSimpArgs false
set_option maxRecDepth 100000

def letter (x : Int) : ByteArray := (⟨#[110, 111, 115, 114]⟩ : ByteArray).extract x.toNat (x + 1).toNat
def slash : ByteArray := ⟨#[47]⟩
def txt (acc : ByteArray) (l : List Int) : ByteArray := l.foldl (fun s x => s ++ letter x) acc
theorem txt_step {acc : ByteArray} {l : List Int} {j : Nat} (h : j < l.length) : txt acc (l.take (j + 1)) = txt acc (l.take j) ++ letter (l.getD j 0) := by
  simp only [txt]
  rw [List.take_add_one, List.foldl_append, List.getElem?_eq_getElem h, List.getD_eq_getElem?_getD, List.getElem?_eq_getElem h]
  rfl
theorem letter_size (x : Int) : (letter x).size ≤ 4 := by
  simp only [letter, ByteArray.size_extract]
  have : (⟨#[110, 111, 115, 114]⟩ : ByteArray).size = 4 := rfl
  omega
theorem txt_size (acc : ByteArray) (l : List Int) : (txt acc l).size ≤ acc.size + 4 * l.length := by
  induction l generalizing acc with
  | nil => simp [txt]
  | cons x l ih =>
    have := ih (acc ++ letter x)
    have h := letter_size x
    rw [ByteArray.size_append] at this
    simp only [txt, List.foldl_cons, List.length_cons] at this ⊢
    omega
def textS (m : Modes) : ByteArray × Int :=
  if checkS m = 0 then (txt (txt (txt ByteArray.empty m.2.1.1 ++ slash) m.2.1.2.1 ++ slash) m.2.1.2.2.1, 0) else (ByteArray.empty, checkS m)
def S31 : List AV → Option FOut := sigSpec [ModesK] [.str, I64] (fun x : Modes × Unit => ((textS x.1).1, (textS x.1).2, ())) (fun _ => True)
theorem nosr_size : (⟨#[110, 111, 115, 114]⟩ : ByteArray).size = 4 := rfl
theorem slash_size : (⟨#[47]⟩ : ByteArray).size = 1 := rfl
theorem nosr_letter (x : Int) : (⟨#[110, 111, 115, 114]⟩ : ByteArray).extract x.toNat (x + 1).toNat = letter x := rfl
theorem txt_take {acc : ByteArray} {l : List Int} (j : Nat) (h : (l.length : Int) ≤ 8) : (txt acc (l.take j)).size ≤ acc.size + 32 := by
  have h1 := txt_size acc (l.take j)
  have h2 := List.length_take_le' j l
  omega
theorem fn31 : FnOk Try.prog 31 S31 := by
  refine fn_of (rs := [.tmp 2, .tmp 3]) (env [(23, S23)] ⟨fn23, trivial⟩) Try.func31 (by kernel_rfl) rfl rfl Try.ntmps31 ?_
  rintro ⟨⟨(c : Int), ⟨(a : List Int), (b : List Int), (d : List Int), u⟩, u1⟩, u2⟩ _ G hG hQ
  refine AM.run2 hG 100 (by cbv) (by (simp only [sxs, sxb, and_self, and_true, true_and, implies_true, imp_self, bne_eq_false_iff_eq, Nat.zero_add, Nat.le_refl, Int.toNat_natCast, Int.ofNat_lt, Int.natCast_nonneg, decide_eq_true_eq, decide_eq_false_iff_not, bne_iff_ne, ne_eq]; try dsimp only [Kd.T, Kds.T])) ?_
  refine AM.case 11 rfl (fun h => ?_) (fun h => ?_) <;> (simp only [sxs, sxb, and_self, and_true, true_and, implies_true, imp_self, bne_eq_false_iff_eq, Nat.zero_add, Nat.le_refl, Int.toNat_natCast, Int.ofNat_lt, Int.natCast_nonneg, decide_eq_true_eq, decide_eq_false_iff_not, bne_iff_ne, ne_eq] at h; try dsimp only [Kd.T, Kds.T] at h)
  · refine AM.run2 hG 100 (by cbv) (by (simp only [sxs, sxb, and_self, and_true, true_and, implies_true, imp_self, bne_eq_false_iff_eq, Nat.zero_add, Nat.le_refl, Int.toNat_natCast, Int.ofNat_lt, Int.natCast_nonneg, decide_eq_true_eq, decide_eq_false_iff_not, bne_iff_ne, ne_eq]; try dsimp only [Kd.T, Kds.T])) ?_
    refine AM.ret2 hG (by cbv) (by (simp only [sxs, sxb, and_self, and_true, true_and, implies_true, imp_self, bne_eq_false_iff_eq, Nat.zero_add, Nat.le_refl, Int.toNat_natCast, Int.ofNat_lt, Int.natCast_nonneg, decide_eq_true_eq, decide_eq_false_iff_not, bne_iff_ne, ne_eq]; try dsimp only [Kd.T, Kds.T])) (hQ _ _ (FinRo.of (by cbv) (by cbv) ?_ ?_))
    · (simp only [sxs, sxb, and_self, and_true, true_and, implies_true, imp_self, bne_eq_false_iff_eq, Nat.zero_add, Nat.le_refl, Int.toNat_natCast, Int.ofNat_lt, Int.natCast_nonneg, decide_eq_true_eq, decide_eq_false_iff_not, bne_iff_ne, ne_eq]; try dsimp only [Kd.T, Kds.T])
    try (simp only [sxs, sxb, and_self, and_true, true_and, implies_true, imp_self, bne_eq_false_iff_eq, Nat.zero_add, Nat.le_refl, Int.toNat_natCast, Int.ofNat_lt, Int.natCast_nonneg, decide_eq_true_eq, decide_eq_false_iff_not, bne_iff_ne, ne_eq]; try dsimp only [Kd.T, Kds.T])
    simp only [textS, if_neg h, and_true]
    rfl
  obtain ⟨h6, h7, ⟨h8, h9, h10⟩, hk⟩ := check0 h
  simp only [kindsOk, Bool.and_eq_true] at h6 h7 h8 h9 h10 hk
  obtain ⟨⟨k0, k1⟩, k2⟩ := hk
  have hletter : ∀ {l : List Int} {j : Nat}, l.all validS = true → j < l.length → 0 ≤ l.getD j 0 ∧ l.getD j 0 ≤ 3 := by
    intro l j hl hj
    rw [List.all_eq_true] at hl
    have := hl (l.getD j 0) (by rw [List.getD_eq_getElem?_getD, List.getElem?_eq_getElem hj]; exact List.getElem_mem hj)
    simpa [validS] using this
  refine AM.run2 hG 100 (by cbv) (by (simp only [sxs, sxb, and_self, and_true, true_and, implies_true, imp_self, bne_eq_false_iff_eq, Nat.zero_add, Nat.le_refl, Int.toNat_natCast, Int.ofNat_lt, Int.natCast_nonneg, decide_eq_true_eq, decide_eq_false_iff_not, bne_iff_ne, ne_eq]; try dsimp only [Kd.T, Kds.T])) ?_
  refine AM.unroll ?_
  refine AM.run2 hG 100 (by cbv) ?_ ?_
  · (simp only [sxs, sxb, and_self, and_true, true_and, implies_true, imp_self, bne_eq_false_iff_eq, Nat.zero_add, Nat.le_refl, Int.toNat_natCast, Int.ofNat_lt, Int.natCast_nonneg, decide_eq_true_eq, decide_eq_false_iff_not, bne_iff_ne, ne_eq]; try dsimp only [Kd.T, Kds.T])
  have hsz0 := txt_size ByteArray.empty a
  refine AM.loopI (fun j : Nat => (frame 46 [(1, .ptr 0 0), (5, .str fun _ => txt ByteArray.empty (a.take j)), (6, .int .i64 (.l 0)), (7, .int .i64 (.t fun _ => nI j))], [.box 34 [.int .i64 (.t fun _ => c), .ro I64 fun _ => a, .ro I64 fun _ => b, .ro I64 fun _ => d]])) (fun j => j ≤ a.length) (fun j => a.length - j) 0 (by simp) ?_ ?_ ?_
  · cbv; (simp only [sxs, sxb, and_self, and_true, true_and, implies_true, imp_self, bne_eq_false_iff_eq, Nat.zero_add, Nat.le_refl, Int.toNat_natCast, Int.ofNat_lt, Int.natCast_nonneg, decide_eq_true_eq, decide_eq_false_iff_not, bne_iff_ne, ne_eq]; try dsimp only [Kd.T, Kds.T]); exact ⟨rfl, rfl⟩
  · cbv; (simp only [sxs, sxb, and_self, and_true, true_and, implies_true, imp_self, bne_eq_false_iff_eq, Nat.zero_add, Nat.le_refl, Int.toNat_natCast, Int.ofNat_lt, Int.natCast_nonneg, decide_eq_true_eq, decide_eq_false_iff_not, bne_iff_ne, ne_eq]; try dsimp only [Kd.T, Kds.T])
  rintro j0 hj0 ih0
  refine AM.run2 hG 100 (by cbv) (by (simp only [sxs, sxb, and_self, and_true, true_and, implies_true, imp_self, bne_eq_false_iff_eq, Nat.zero_add, Nat.le_refl, Int.toNat_natCast, Int.ofNat_lt, Int.natCast_nonneg, decide_eq_true_eq, decide_eq_false_iff_not, bne_iff_ne, ne_eq]; try dsimp only [Kd.T, Kds.T])) ?_
  refine AM.case 24 rfl (fun e0 => ?_) (fun e0 => ?_) <;> (simp only [sxs, sxb, and_self, and_true, true_and, implies_true, imp_self, bne_eq_false_iff_eq, Nat.zero_add, Nat.le_refl, Int.toNat_natCast, Int.ofNat_lt, Int.natCast_nonneg, decide_eq_true_eq, decide_eq_false_iff_not, bne_iff_ne, ne_eq] at e0; try dsimp only [Kd.T, Kds.T] at e0)
  · have e' : j0 < a.length := by omega
    have hs := txt_step (acc := ByteArray.empty) e'
    have hb := txt_size ByteArray.empty (a.take j0)
    obtain ⟨hx1, hx2⟩ := hletter k0 e'
    have hw : IntKind.i64.wrap (a.getD j0 0 + 1) = a.getD j0 0 + 1 := w64 (by omega) (by omega)
    refine AM.run2 hG 100 (by cbv) ?_ ?_
    · (simp only [sxs, sxb, and_self, and_true, true_and, implies_true, imp_self, bne_eq_false_iff_eq, Nat.zero_add, Nat.le_refl, Int.toNat_natCast, Int.ofNat_lt, Int.natCast_nonneg, decide_eq_true_eq, decide_eq_false_iff_not, bne_iff_ne, ne_eq, hw, nosr_size, nosr_letter]; try dsimp only [Kd.T, Kds.T])
      have h1 := letter_size (a.getD j0 0)
      have h2 := txt_take (acc := ByteArray.empty) (l := a) j0 (by omega)
      have e3 : ByteArray.empty.size = 0 := rfl
      try simp only [ByteArray.size_append, show slash.size = 1 from rfl] at *
      omega
    refine AM.imp2 (by cbv) (by cbv) ?_ (by (simp only [sxs, sxb, and_self, and_true, true_and, implies_true, imp_self, bne_eq_false_iff_eq, Nat.zero_add, Nat.le_refl, Int.toNat_natCast, Int.ofNat_lt, Int.natCast_nonneg, decide_eq_true_eq, decide_eq_false_iff_not, bne_iff_ne, ne_eq]; try dsimp only [Kd.T, Kds.T])) (ih0 (j0 + 1) (by omega) (by omega))
    (simp only [sxs, sxb, and_self, and_true, true_and, implies_true, imp_self, bne_eq_false_iff_eq, Nat.zero_add, Nat.le_refl, Int.toNat_natCast, Int.ofNat_lt, Int.natCast_nonneg, decide_eq_true_eq, decide_eq_false_iff_not, bne_iff_ne, ne_eq, hw]; try dsimp only [Kd.T, Kds.T])
    rw [w64s (by omega), hs]
    exact ⟨rfl, rfl⟩
  have ht0 : a.take j0 = a := List.take_of_length_le (by omega)
  clear ih0
  refine AM.run2 hG 100 (by cbv) ?_ ?_
  · (simp only [sxs, sxb, and_self, and_true, true_and, implies_true, imp_self, bne_eq_false_iff_eq, Nat.zero_add, Nat.le_refl, Int.toNat_natCast, Int.ofNat_lt, Int.natCast_nonneg, decide_eq_true_eq, decide_eq_false_iff_not, bne_iff_ne, ne_eq, slash_size]; try dsimp only [Kd.T, Kds.T])
    rw [ht0]
    have e3 : ByteArray.empty.size = 0 := rfl
    omega
  have hsz1 := txt_size (txt ByteArray.empty a ++ slash) b
  refine AM.loopI (fun j : Nat => (frame 46 [(1, .ptr 0 0), (5, .str fun _ => txt (txt ByteArray.empty a ++ slash) (b.take j)), (6, .int .i64 (.l 1)), (7, .int .i64 (.t fun _ => nI j))], [.box 34 [.int .i64 (.t fun _ => c), .ro I64 fun _ => a, .ro I64 fun _ => b, .ro I64 fun _ => d]])) (fun j => j ≤ b.length) (fun j => b.length - j) 0 (by simp) ?_ ?_ ?_
  · cbv; (simp only [sxs, sxb, and_self, and_true, true_and, implies_true, imp_self, bne_eq_false_iff_eq, Nat.zero_add, Nat.le_refl, Int.toNat_natCast, Int.ofNat_lt, Int.natCast_nonneg, decide_eq_true_eq, decide_eq_false_iff_not, bne_iff_ne, ne_eq]; try dsimp only [Kd.T, Kds.T]); rw [ht0]; exact ⟨rfl, rfl⟩
  · cbv; (simp only [sxs, sxb, and_self, and_true, true_and, implies_true, imp_self, bne_eq_false_iff_eq, Nat.zero_add, Nat.le_refl, Int.toNat_natCast, Int.ofNat_lt, Int.natCast_nonneg, decide_eq_true_eq, decide_eq_false_iff_not, bne_iff_ne, ne_eq]; try dsimp only [Kd.T, Kds.T])
  rintro j1 hj1 ih1
  refine AM.run2 hG 100 (by cbv) (by (simp only [sxs, sxb, and_self, and_true, true_and, implies_true, imp_self, bne_eq_false_iff_eq, Nat.zero_add, Nat.le_refl, Int.toNat_natCast, Int.ofNat_lt, Int.natCast_nonneg, decide_eq_true_eq, decide_eq_false_iff_not, bne_iff_ne, ne_eq]; try dsimp only [Kd.T, Kds.T])) ?_
  refine AM.case 24 rfl (fun e1 => ?_) (fun e1 => ?_) <;> (simp only [sxs, sxb, and_self, and_true, true_and, implies_true, imp_self, bne_eq_false_iff_eq, Nat.zero_add, Nat.le_refl, Int.toNat_natCast, Int.ofNat_lt, Int.natCast_nonneg, decide_eq_true_eq, decide_eq_false_iff_not, bne_iff_ne, ne_eq] at e1; try dsimp only [Kd.T, Kds.T] at e1)
  · have e' : j1 < b.length := by omega
    have hs := txt_step (acc := (txt ByteArray.empty a ++ slash)) e'
    have hb := txt_size (txt ByteArray.empty a ++ slash) (b.take j1)
    obtain ⟨hx1, hx2⟩ := hletter k1 e'
    have hw : IntKind.i64.wrap (b.getD j1 0 + 1) = b.getD j1 0 + 1 := w64 (by omega) (by omega)
    refine AM.run2 hG 100 (by cbv) ?_ ?_
    · (simp only [sxs, sxb, and_self, and_true, true_and, implies_true, imp_self, bne_eq_false_iff_eq, Nat.zero_add, Nat.le_refl, Int.toNat_natCast, Int.ofNat_lt, Int.natCast_nonneg, decide_eq_true_eq, decide_eq_false_iff_not, bne_iff_ne, ne_eq, hw, nosr_size, nosr_letter]; try dsimp only [Kd.T, Kds.T])
      have h1 := letter_size (b.getD j1 0)
      have h2 := txt_take (acc := (txt ByteArray.empty a ++ slash)) (l := b) j1 (by omega)
      have e3 : ByteArray.empty.size = 0 := rfl
      try simp only [ByteArray.size_append, show slash.size = 1 from rfl] at *
      omega
    refine AM.imp2 (by cbv) (by cbv) ?_ (by (simp only [sxs, sxb, and_self, and_true, true_and, implies_true, imp_self, bne_eq_false_iff_eq, Nat.zero_add, Nat.le_refl, Int.toNat_natCast, Int.ofNat_lt, Int.natCast_nonneg, decide_eq_true_eq, decide_eq_false_iff_not, bne_iff_ne, ne_eq]; try dsimp only [Kd.T, Kds.T])) (ih1 (j1 + 1) (by omega) (by omega))
    (simp only [sxs, sxb, and_self, and_true, true_and, implies_true, imp_self, bne_eq_false_iff_eq, Nat.zero_add, Nat.le_refl, Int.toNat_natCast, Int.ofNat_lt, Int.natCast_nonneg, decide_eq_true_eq, decide_eq_false_iff_not, bne_iff_ne, ne_eq, hw]; try dsimp only [Kd.T, Kds.T])
    rw [w64s (by omega), hs]
    exact ⟨rfl, rfl⟩
  have ht1 : b.take j1 = b := List.take_of_length_le (by omega)
  clear ih1
  refine AM.run2 hG 100 (by cbv) ?_ ?_
  · (simp only [sxs, sxb, and_self, and_true, true_and, implies_true, imp_self, bne_eq_false_iff_eq, Nat.zero_add, Nat.le_refl, Int.toNat_natCast, Int.ofNat_lt, Int.natCast_nonneg, decide_eq_true_eq, decide_eq_false_iff_not, bne_iff_ne, ne_eq, slash_size]; try dsimp only [Kd.T, Kds.T])
    rw [ht1]
    have e3 : ByteArray.empty.size = 0 := rfl
    rw [ByteArray.size_append, show slash.size = 1 from rfl] at hsz1
    omega
  have hsz2 := txt_size (txt (txt ByteArray.empty a ++ slash) b ++ slash) d
  refine AM.loopI (fun j : Nat => (frame 46 [(1, .ptr 0 0), (5, .str fun _ => txt (txt (txt ByteArray.empty a ++ slash) b ++ slash) (d.take j)), (6, .int .i64 (.l 2)), (7, .int .i64 (.t fun _ => nI j))], [.box 34 [.int .i64 (.t fun _ => c), .ro I64 fun _ => a, .ro I64 fun _ => b, .ro I64 fun _ => d]])) (fun j => j ≤ d.length) (fun j => d.length - j) 0 (by simp) ?_ ?_ ?_
  · cbv; (simp only [sxs, sxb, and_self, and_true, true_and, implies_true, imp_self, bne_eq_false_iff_eq, Nat.zero_add, Nat.le_refl, Int.toNat_natCast, Int.ofNat_lt, Int.natCast_nonneg, decide_eq_true_eq, decide_eq_false_iff_not, bne_iff_ne, ne_eq]; try dsimp only [Kd.T, Kds.T]); rw [ht1]; exact ⟨rfl, rfl⟩
  · cbv; (simp only [sxs, sxb, and_self, and_true, true_and, implies_true, imp_self, bne_eq_false_iff_eq, Nat.zero_add, Nat.le_refl, Int.toNat_natCast, Int.ofNat_lt, Int.natCast_nonneg, decide_eq_true_eq, decide_eq_false_iff_not, bne_iff_ne, ne_eq]; try dsimp only [Kd.T, Kds.T])
  rintro j2 hj2 ih2
  refine AM.run2 hG 100 (by cbv) (by (simp only [sxs, sxb, and_self, and_true, true_and, implies_true, imp_self, bne_eq_false_iff_eq, Nat.zero_add, Nat.le_refl, Int.toNat_natCast, Int.ofNat_lt, Int.natCast_nonneg, decide_eq_true_eq, decide_eq_false_iff_not, bne_iff_ne, ne_eq]; try dsimp only [Kd.T, Kds.T])) ?_
  refine AM.case 24 rfl (fun e2 => ?_) (fun e2 => ?_) <;> (simp only [sxs, sxb, and_self, and_true, true_and, implies_true, imp_self, bne_eq_false_iff_eq, Nat.zero_add, Nat.le_refl, Int.toNat_natCast, Int.ofNat_lt, Int.natCast_nonneg, decide_eq_true_eq, decide_eq_false_iff_not, bne_iff_ne, ne_eq] at e2; try dsimp only [Kd.T, Kds.T] at e2)
  · have e' : j2 < d.length := by omega
    have hs := txt_step (acc := (txt (txt ByteArray.empty a ++ slash) b ++ slash)) e'
    have hb := txt_size (txt (txt ByteArray.empty a ++ slash) b ++ slash) (d.take j2)
    obtain ⟨hx1, hx2⟩ := hletter k2 e'
    have hw : IntKind.i64.wrap (d.getD j2 0 + 1) = d.getD j2 0 + 1 := w64 (by omega) (by omega)
    refine AM.run2 hG 100 (by cbv) ?_ ?_
    · (simp only [sxs, sxb, and_self, and_true, true_and, implies_true, imp_self, bne_eq_false_iff_eq, Nat.zero_add, Nat.le_refl, Int.toNat_natCast, Int.ofNat_lt, Int.natCast_nonneg, decide_eq_true_eq, decide_eq_false_iff_not, bne_iff_ne, ne_eq, hw, nosr_size, nosr_letter]; try dsimp only [Kd.T, Kds.T])
      have h1 := letter_size (d.getD j2 0)
      have h2 := txt_take (acc := (txt (txt ByteArray.empty a ++ slash) b ++ slash)) (l := d) j2 (by omega)
      have e3 : ByteArray.empty.size = 0 := rfl
      try simp only [ByteArray.size_append, show slash.size = 1 from rfl] at *
      omega
    refine AM.imp2 (by cbv) (by cbv) ?_ (by (simp only [sxs, sxb, and_self, and_true, true_and, implies_true, imp_self, bne_eq_false_iff_eq, Nat.zero_add, Nat.le_refl, Int.toNat_natCast, Int.ofNat_lt, Int.natCast_nonneg, decide_eq_true_eq, decide_eq_false_iff_not, bne_iff_ne, ne_eq]; try dsimp only [Kd.T, Kds.T])) (ih2 (j2 + 1) (by omega) (by omega))
    (simp only [sxs, sxb, and_self, and_true, true_and, implies_true, imp_self, bne_eq_false_iff_eq, Nat.zero_add, Nat.le_refl, Int.toNat_natCast, Int.ofNat_lt, Int.natCast_nonneg, decide_eq_true_eq, decide_eq_false_iff_not, bne_iff_ne, ne_eq, hw]; try dsimp only [Kd.T, Kds.T])
    rw [w64s (by omega), hs]
    exact ⟨rfl, rfl⟩
  have ht2 : d.take j2 = d := List.take_of_length_le (by omega)
  clear ih2
  refine AM.run2 hG 100 (by cbv) (by (simp only [sxs, sxb, and_self, and_true, true_and, implies_true, imp_self, bne_eq_false_iff_eq, Nat.zero_add, Nat.le_refl, Int.toNat_natCast, Int.ofNat_lt, Int.natCast_nonneg, decide_eq_true_eq, decide_eq_false_iff_not, bne_iff_ne, ne_eq]; try dsimp only [Kd.T, Kds.T])) ?_
  refine AM.ret2 hG (by cbv) (by (simp only [sxs, sxb, and_self, and_true, true_and, implies_true, imp_self, bne_eq_false_iff_eq, Nat.zero_add, Nat.le_refl, Int.toNat_natCast, Int.ofNat_lt, Int.natCast_nonneg, decide_eq_true_eq, decide_eq_false_iff_not, bne_iff_ne, ne_eq]; try dsimp only [Kd.T, Kds.T])) (hQ _ _ (FinRo.of (by cbv) (by cbv) ?_ ?_))
  · (simp only [sxs, sxb, and_self, and_true, true_and, implies_true, imp_self, bne_eq_false_iff_eq, Nat.zero_add, Nat.le_refl, Int.toNat_natCast, Int.ofNat_lt, Int.natCast_nonneg, decide_eq_true_eq, decide_eq_false_iff_not, bne_iff_ne, ne_eq]; try dsimp only [Kd.T, Kds.T])
  try (simp only [sxs, sxb, and_self, and_true, true_and, implies_true, imp_self, bne_eq_false_iff_eq, Nat.zero_add, Nat.le_refl, Int.toNat_natCast, Int.ofNat_lt, Int.natCast_nonneg, decide_eq_true_eq, decide_eq_false_iff_not, bne_iff_ne, ne_eq]; try dsimp only [Kd.T, Kds.T])
  simp only [textS, if_pos h, ht2, and_true]
end Go.Sx.Ytengkdmlnnehgaa

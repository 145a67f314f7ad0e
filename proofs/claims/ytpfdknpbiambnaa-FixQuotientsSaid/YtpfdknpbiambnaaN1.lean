/- M17 M18 M19 M20 M21 M22, joined. -/
import Derived.Test.YtpfdknpbiambnaaM13
import Derived.Test.YtpfdknpbiambnaaM14
import Derived.Test.YtpfdknpbiambnaaM16
namespace Go.Sx.Ytpfdknpbiambnaa
open Go Go.Sx Go.Proofs
set_option linter.unusedVariables false
set_option linter.unusedSimpArgs false
set_option maxRecDepth 100000

abbrev NumK : Kd := .struct [.int .i64, .slice (.int .u64)]
abbrev Num := Int × List Int × Unit
def dval : List Int → Int
  | [] => 0
  | d :: l => d + 65536 * dval l
def drng (l : List Int) : Prop := ∀ d ∈ l, 0 ≤ d ∧ d < 65536
def digs (n : Nat) : List Int := if h : n = 0 then [] else ((n % 65536 : Nat) : Int) :: digs (n / 65536)
termination_by n
decreasing_by omega
theorem digs_zero : digs 0 = [] := by rw [digs]; rfl
theorem digs_pos {n : Nat} (h : n ≠ 0) : digs n = ((n % 65536 : Nat) : Int) :: digs (n / 65536) := by rw [digs, dif_neg h]
theorem digs_val (n : Nat) : dval (digs n) = n := by
  induction n using Nat.strongRecOn with
  | _ n ih =>
    by_cases h : n = 0
    · subst h; rw [digs_zero]; rfl
    · rw [digs_pos h, dval, ih _ (by omega)]
      omega
theorem digs_rng (n : Nat) : drng (digs n) := by
  induction n using Nat.strongRecOn with
  | _ n ih =>
    by_cases h : n = 0
    · subst h; rw [digs_zero]; intro d hd; cases hd
    · rw [digs_pos h]
      intro d hd
      rcases List.mem_cons.1 hd with rfl | hd
      · omega
      · exact ih _ (by omega) d hd
theorem dval_nonneg : ∀ {l : List Int}, drng l → 0 ≤ dval l
  | [], _ => by simp [dval]
  | d :: l, h => by
    have h1 := h d (by simp)
    have h2 := dval_nonneg (l := l) fun x hx => h x (by simp [hx])
    rw [dval]; omega
/-- No zero at the end. -/
def dtop (l : List Int) : Prop := ∀ h : l ≠ [], l.getLast h ≠ 0
theorem dtop_tail {d : Int} {l : List Int} (h : dtop (d :: l)) : dtop l := by
  intro hl
  have := h (by simp)
  rwa [List.getLast_cons hl] at this
theorem dval_pos : ∀ {l : List Int}, drng l → dtop l → l ≠ [] → 0 < dval l
  | [d], h, ht, _ => by
    have h1 := h d (by simp)
    have h2 := ht (by simp)
    simp only [List.getLast_singleton] at h2
    rw [dval, dval]; omega
  | d :: e :: l, h, ht, _ => by
    have h1 := h d (by simp)
    have h2 := dval_pos (l := e :: l) (fun x hx => h x (by simp [hx])) (dtop_tail ht) (by simp)
    rw [dval]; omega
theorem digs_uniq : ∀ {l : List Int}, drng l → dtop l → digs (dval l).toNat = l
  | [], _, _ => by simp [dval, digs_zero]
  | d :: l, h, ht => by
    have hp := dval_pos h ht (by simp)
    have h1 := h d (by simp)
    have h2 : drng l := fun x hx => h x (by simp [hx])
    have h3 := dval_nonneg h2
    rw [digs_pos (by omega)]
    have e1 : (dval (d :: l)).toNat % 65536 = d.toNat := by rw [dval]; omega
    have e2 : (dval (d :: l)).toNat / 65536 = (dval l).toNat := by rw [dval]; omega
    rw [e1, e2, digs_uniq h2 (dtop_tail ht)]
    congr 1
    omega
theorem digs_top (n : Nat) : dtop (digs n) := by
  induction n using Nat.strongRecOn with
  | _ n ih =>
    by_cases h : n = 0
    · subst h; rw [digs_zero]; intro h; exact absurd rfl h
    · rw [digs_pos h]
      intro hne
      by_cases h2 : n / 65536 = 0
      · have e : digs (n / 65536) = [] := by rw [h2, digs_zero]
        simp only [e, List.getLast_singleton]
        omega
      · have e : digs (n / 65536) ≠ [] := by rw [digs_pos h2]; simp
        rw [List.getLast_cons e]
        exact ih _ (by omega) e
theorem dval_app : ∀ (a b : List Int), dval (a ++ b) = dval a + 65536 ^ a.length * dval b
  | [], b => by simp [dval]
  | d :: a, b => by
    rw [List.cons_append, dval, dval, dval_app a b, List.length_cons, Int.pow_succ, Int.mul_add, ← Int.mul_assoc, Int.mul_comm 65536 (65536 ^ a.length), Int.add_assoc]
theorem digs_len : ∀ (k n : Nat), n < 65536 ^ k → (digs n).length ≤ k
  | 0, n, h => by
    have : n = 0 := by simpa using h
    subst this
    rw [digs_zero]; exact Nat.le_refl _
  | k + 1, n, h => by
    by_cases e : n = 0
    · subst e; rw [digs_zero]; exact Nat.zero_le _
    · rw [digs_pos e, List.length_cons]
      have := digs_len k (n / 65536) (by rw [Nat.pow_succ] at h; omega)
      omega
def sgnI (x : Int) : Int := if x < 0 then -1 else if x = 0 then 0 else 1
/-- The number x, as the reference holds it. -/
def canonN (x : Int) : Num := (sgnI x, digs x.natAbs, ())
def valN (a : Num) : Int := a.1 * dval a.2.1
theorem valN_canon (x : Int) : valN (canonN x) = x := by
  unfold valN canonN sgnI
  simp only
  rw [digs_val]
  split
  · omega
  · split <;> omega
def okN (a : Num) : Prop := a = canonN (valN a)
theorem okN_canon (x : Int) : okN (canonN x) := by unfold okN; rw [valN_canon]
theorem okN_nil {a : Num} (h : okN a) : a.2.1 = [] ↔ valN a = 0 := by
  have e1 : a.2.1 = digs (valN a).natAbs := congrArg (fun x : Num => x.2.1) h
  rw [e1]
  constructor
  · intro e
    have := digs_val (valN a).natAbs
    rw [e, dval] at this
    omega
  · intro e
    rw [e]
    exact digs_zero
theorem okN_facts {a : Num} (h : okN a) : drng a.2.1 ∧ dtop a.2.1 ∧ dval a.2.1 = (valN a).natAbs ∧ a.1 = sgnI (valN a) := by
  have e1 : a.2.1 = digs (valN a).natAbs := congrArg (fun x : Num => x.2.1) h
  have e2 : a.1 = sgnI (valN a) := congrArg (fun x : Num => x.1) h
  rw [e1]
  exact ⟨digs_rng _, digs_top _, digs_val _, e2⟩
theorem dtop_take : ∀ {l : List Int} {k : Nat}, k ≤ l.length → (k = 0 ∨ l.getD (k - 1) 0 ≠ 0) → dtop (l.take k)
  | l, 0, _, _ => by intro h; simp at h
  | l, k + 1, hk, h => by
    have h := h.resolve_left (by omega)
    intro hne
    rw [List.getLast_eq_getElem]
    have e : (l.take (k + 1)).length - 1 = k := by rw [List.length_take]; omega
    simp only [e, List.getElem_take]
    rw [Nat.add_sub_cancel, List.getD_eq_getElem?_getD, List.getElem?_eq_getElem (by omega), Option.getD_some] at h
    exact h
theorem dval_take {l : List Int} {k : Nat} (h : ∀ j, k ≤ j → l.getD j 0 = 0) : dval (l.take k) = dval l := by
  have e : dval l = dval (l.take k ++ l.drop k) := by rw [List.take_append_drop]
  rw [e, dval_app]
  have hz : ∀ m : List Int, (∀ j, m.getD j 0 = 0) → dval m = 0 := by
    intro m
    induction m with
    | nil => intro _; rfl
    | cons d m ih =>
      intro hm
      have h0 := hm 0
      simp only [List.getD_cons_zero] at h0
      rw [dval, h0, ih fun j => by have := hm (j + 1); simpa using this]
      rfl
  rw [hz (l.drop k) fun j => by have := h (k + j) (by omega); simpa [List.getD_eq_getElem?_getD] using this]
  omega
/-- What `trimmed` gives. -/
theorem trim_canon {s : Int} {l : List Int} {k : Nat} (hs : s = -1 ∨ s = 0 ∧ dval l = 0 ∨ s = 1) (hr : drng l) (hk : k ≤ l.length) (h1 : k = 0 ∨ l.getD (k - 1) 0 ≠ 0) (h2 : ∀ j, k ≤ j → l.getD j 0 = 0) :
    canonN (s * dval l) = (if k = 0 then 0 else s, l.take k, ()) := by
  have ht := dtop_take hk h1
  have hv := dval_take h2
  have hr2 : drng (l.take k) := fun d hd => hr d (List.mem_of_mem_take hd)
  have hu := digs_uniq hr2 ht
  have hn := dval_nonneg hr
  rw [hv] at hu
  unfold canonN
  by_cases h0 : k = 0
  · subst h0
    have : dval l = 0 := by rw [← hv]; rfl
    rw [this, Int.mul_zero]
    simp [sgnI, digs_zero]
  · have hp : 0 < dval l := by
      rw [← hv]
      refine dval_pos hr2 ht ?_
      intro e
      have := congrArg List.length e
      rw [List.length_take] at this
      simp only [List.length_nil] at this
      omega
    have hs' : s = -1 ∨ s = 1 := by omega
    rw [if_neg h0]
    rcases hs' with rfl | rfl
    · have e1 : sgnI (-1 * dval l) = -1 := by unfold sgnI; rw [if_pos (by omega)]
      have e2 : (-1 * dval l).natAbs = (dval l).toNat := by omega
      rw [e1, e2, hu]
    · have e1 : sgnI (1 * dval l) = 1 := by unfold sgnI; rw [if_neg (by omega), if_neg (by omega)]
      have e2 : (1 * dval l).natAbs = (dval l).toNat := by omega
      rw [e1, e2, hu]
abbrev DigsK : Kd := .slice (.int .u64)
def S55 : List AV → Option FOut := sigSpec [DigsK, I64] [U64] (fun x : List Int × Int × Unit => (x.1.getD x.2.1.toNat 0, ())) (fun x : List Int × Int × Unit => 0 ≤ x.2.1)
theorem fn55 : FnOk Try.prog 55 S55 := by
  refine fn_of (rs := [.tmp 4]) (env [] trivial) Try.func55 (by kernel_rfl) rfl rfl Try.ntmps55 ?_
  rintro ⟨(l : List Int), (i : Int), u⟩ hi G hG hQ
  simp only at hi
  refine AM.run2 hG 100 (by cbv) ?_ ?_
  · (simp only [sxs, sxb, and_self, and_true, true_and, implies_true, imp_self, bne_eq_false_iff_eq, Nat.zero_add, Nat.le_refl, Int.toNat_natCast, Int.ofNat_lt, Int.natCast_nonneg, decide_eq_true_eq, decide_eq_false_iff_not, bne_iff_ne, ne_eq]; try dsimp only [Kd.T, Kds.T, AK.T, AKs.T])
  refine AM.case 8 rfl (fun h => ?_) (fun h => ?_) <;> (simp only [sxs, sxb, and_self, and_true, true_and, implies_true, imp_self, bne_eq_false_iff_eq, Nat.zero_add, Nat.le_refl, Int.toNat_natCast, Int.ofNat_lt, Int.natCast_nonneg, decide_eq_true_eq, decide_eq_false_iff_not, bne_iff_ne, ne_eq] at h; try dsimp only [Kd.T, Kds.T, AK.T, AKs.T] at h)
  · refine AM.run2 hG 100 (by cbv) ?_ ?_
    · (simp only [sxs, sxb, and_self, and_true, true_and, implies_true, imp_self, bne_eq_false_iff_eq, Nat.zero_add, Nat.le_refl, Int.toNat_natCast, Int.ofNat_lt, Int.natCast_nonneg, decide_eq_true_eq, decide_eq_false_iff_not, bne_iff_ne, ne_eq]; try dsimp only [Kd.T, Kds.T, AK.T, AKs.T])
      omega
    refine AM.ret2 hG (by cbv) (by (simp only [sxs, sxb, and_self, and_true, true_and, implies_true, imp_self, bne_eq_false_iff_eq, Nat.zero_add, Nat.le_refl, Int.toNat_natCast, Int.ofNat_lt, Int.natCast_nonneg, decide_eq_true_eq, decide_eq_false_iff_not, bne_iff_ne, ne_eq]; try dsimp only [Kd.T, Kds.T, AK.T, AKs.T])) (hQ _ _ (FinRo.of (by cbv) (by cbv) ?_ ?_))
    · (simp only [sxs, sxb, and_self, and_true, true_and, implies_true, imp_self, bne_eq_false_iff_eq, Nat.zero_add, Nat.le_refl, Int.toNat_natCast, Int.ofNat_lt, Int.natCast_nonneg, decide_eq_true_eq, decide_eq_false_iff_not, bne_iff_ne, ne_eq]; try dsimp only [Kd.T, Kds.T, AK.T, AKs.T])
    try (simp only [sxs, sxb, and_self, and_true, true_and, implies_true, imp_self, bne_eq_false_iff_eq, Nat.zero_add, Nat.le_refl, Int.toNat_natCast, Int.ofNat_lt, Int.natCast_nonneg, decide_eq_true_eq, decide_eq_false_iff_not, bne_iff_ne, ne_eq]; try dsimp only [Kd.T, Kds.T, AK.T, AKs.T])
  · refine AM.run2 hG 100 (by cbv) ?_ ?_
    · (simp only [sxs, sxb, and_self, and_true, true_and, implies_true, imp_self, bne_eq_false_iff_eq, Nat.zero_add, Nat.le_refl, Int.toNat_natCast, Int.ofNat_lt, Int.natCast_nonneg, decide_eq_true_eq, decide_eq_false_iff_not, bne_iff_ne, ne_eq]; try dsimp only [Kd.T, Kds.T, AK.T, AKs.T])
    refine AM.ret2 hG (by cbv) (by (simp only [sxs, sxb, and_self, and_true, true_and, implies_true, imp_self, bne_eq_false_iff_eq, Nat.zero_add, Nat.le_refl, Int.toNat_natCast, Int.ofNat_lt, Int.natCast_nonneg, decide_eq_true_eq, decide_eq_false_iff_not, bne_iff_ne, ne_eq]; try dsimp only [Kd.T, Kds.T, AK.T, AKs.T])) (hQ _ _ (FinRo.of (by cbv) (by cbv) ?_ ?_))
    · (simp only [sxs, sxb, and_self, and_true, true_and, implies_true, imp_self, bne_eq_false_iff_eq, Nat.zero_add, Nat.le_refl, Int.toNat_natCast, Int.ofNat_lt, Int.natCast_nonneg, decide_eq_true_eq, decide_eq_false_iff_not, bne_iff_ne, ne_eq]; try dsimp only [Kd.T, Kds.T, AK.T, AKs.T])
    try (simp only [sxs, sxb, and_self, and_true, true_and, implies_true, imp_self, bne_eq_false_iff_eq, Nat.zero_add, Nat.le_refl, Int.toNat_natCast, Int.ofNat_lt, Int.natCast_nonneg, decide_eq_true_eq, decide_eq_false_iff_not, bne_iff_ne, ne_eq]; try dsimp only [Kd.T, Kds.T, AK.T, AKs.T])
    rw [List.getD_eq_getElem?_getD, List.getElem?_eq_none (by omega)]
    rfl
def S56 : List AV → Option FOut := sigSpec [NumK] [NumK] (fun x : Num × Unit => (canonN (valN x.1), ())) (fun x : Num × Unit => (x.1.1 = -1 ∨ x.1.1 = 0 ∧ dval x.1.2.1 = 0 ∨ x.1.1 = 1) ∧ drng x.1.2.1 ∧ x.1.2.1.length ≤ 1000000)
set_option maxHeartbeats 4000000 in
theorem fn56 : FnOk Try.prog 56 S56 := by
  refine fn_of (rs := [.cell 2 53]) (env [] trivial) Try.func56 (by kernel_rfl) rfl rfl Try.ntmps56 ?_
  rintro ⟨⟨(s : Int), (l : List Int), u⟩, u2⟩ ⟨hs, hr, hl⟩ G hG hQ
  simp only at hs hr hl
  refine AM.run2 hG 100 (by cbv) ?_ ?_
  · (simp only [sxs, sxb, and_self, and_true, true_and, implies_true, imp_self, bne_eq_false_iff_eq, Nat.zero_add, Nat.le_refl, Int.toNat_natCast, Int.ofNat_lt, Int.natCast_nonneg, decide_eq_true_eq, decide_eq_false_iff_not, bne_iff_ne, ne_eq]; try dsimp only [Kd.T, Kds.T, AK.T, AKs.T])
  refine AM.loopI (fun k : Nat => (frame 29 [(1, .ptr 0 0), (2, .ptr 1 0), (3, .int .i64 (.t fun _ => nI k))], [.box 53 [.int .i64 (.t fun _ => s), .ro U64 fun _ => l], .box 53 [.int .i64 (.l 0), .nils]]))
    (fun k => k ≤ l.length ∧ ∀ j, k ≤ j → l.getD j 0 = 0) (fun k => k) l.length ⟨Nat.le_refl _, fun j hj => by rw [List.getD_eq_getElem?_getD, List.getElem?_eq_none (by omega)]; rfl⟩ ?_ ?_ ?_
  · cbv; (simp only [sxs, sxb, and_self, and_true, true_and, implies_true, imp_self, bne_eq_false_iff_eq, Nat.zero_add, Nat.le_refl, Int.toNat_natCast, Int.ofNat_lt, Int.natCast_nonneg, decide_eq_true_eq, decide_eq_false_iff_not, bne_iff_ne, ne_eq]; try dsimp only [Kd.T, Kds.T, AK.T, AKs.T])
    try rfl
  · cbv; (simp only [sxs, sxb, and_self, and_true, true_and, implies_true, imp_self, bne_eq_false_iff_eq, Nat.zero_add, Nat.le_refl, Int.toNat_natCast, Int.ofNat_lt, Int.natCast_nonneg, decide_eq_true_eq, decide_eq_false_iff_not, bne_iff_ne, ne_eq]; try dsimp only [Kd.T, Kds.T, AK.T, AKs.T])
  rintro k ⟨hk, hz⟩ ih
  refine AM.run2 hG 100 (by cbv) ?_ ?_
  · (simp only [sxs, sxb, and_self, and_true, true_and, implies_true, imp_self, bne_eq_false_iff_eq, Nat.zero_add, Nat.le_refl, Int.toNat_natCast, Int.ofNat_lt, Int.natCast_nonneg, decide_eq_true_eq, decide_eq_false_iff_not, bne_iff_ne, ne_eq]; try dsimp only [Kd.T, Kds.T, AK.T, AKs.T])
    refine ⟨fun h => ?_, fun h => ?_⟩ <;> rw [w64 (by omega) (by omega)] <;> omega
  refine AM.case 17 rfl (fun h => ?_) (fun h => ?_) <;> (simp only [sxs, sxb, and_self, and_true, true_and, implies_true, imp_self, bne_eq_false_iff_eq, Nat.zero_add, Nat.le_refl, Int.toNat_natCast, Int.ofNat_lt, Int.natCast_nonneg, decide_eq_true_eq, decide_eq_false_iff_not, bne_iff_ne, ne_eq] at h; try dsimp only [Kd.T, Kds.T, AK.T, AKs.T] at h)
  · refine AM.run2 hG 100 (by cbv) ?_ ?_
    · (simp only [sxs, sxb, and_self, and_true, true_and, implies_true, imp_self, bne_eq_false_iff_eq, Nat.zero_add, Nat.le_refl, Int.toNat_natCast, Int.ofNat_lt, Int.natCast_nonneg, decide_eq_true_eq, decide_eq_false_iff_not, bne_iff_ne, ne_eq]; try dsimp only [Kd.T, Kds.T, AK.T, AKs.T])
    refine AM.imp2 (by cbv) (by cbv) ?_ ?_ (ih (k - 1) ⟨by omega, ?_⟩ (by omega))
    · (simp only [sxs, sxb, and_self, and_true, true_and, implies_true, imp_self, bne_eq_false_iff_eq, Nat.zero_add, Nat.le_refl, Int.toNat_natCast, Int.ofNat_lt, Int.natCast_nonneg, decide_eq_true_eq, decide_eq_false_iff_not, bne_iff_ne, ne_eq]; try dsimp only [Kd.T, Kds.T, AK.T, AKs.T])
      rw [w64 (by omega) (by omega)]
      omega
    · (simp only [sxs, sxb, and_self, and_true, true_and, implies_true, imp_self, bne_eq_false_iff_eq, Nat.zero_add, Nat.le_refl, Int.toNat_natCast, Int.ofNat_lt, Int.natCast_nonneg, decide_eq_true_eq, decide_eq_false_iff_not, bne_iff_ne, ne_eq]; try dsimp only [Kd.T, Kds.T, AK.T, AKs.T])
    · intro j hj
      rw [w64 (by omega) (by omega), show ((k : Int) - 1).toNat = k - 1 by omega] at h
      by_cases e : j = k - 1
      · rw [e]; exact h.2
      · exact hz j (by omega)
  clear ih
  refine AM.run2 hG 100 (by cbv) ?_ ?_
  · (simp only [sxs, sxb, and_self, and_true, true_and, implies_true, imp_self, bne_eq_false_iff_eq, Nat.zero_add, Nat.le_refl, Int.toNat_natCast, Int.ofNat_lt, Int.natCast_nonneg, decide_eq_true_eq, decide_eq_false_iff_not, bne_iff_ne, ne_eq]; try dsimp only [Kd.T, Kds.T, AK.T, AKs.T])
    exact ⟨by decide, by omega⟩
  have ht : k = 0 ∨ l.getD (k - 1) 0 ≠ 0 := by
    by_cases e : k = 0
    · exact .inl e
    · right
      have := h (by omega)
      rw [w64 (by omega) (by omega), show ((k : Int) - 1).toNat = k - 1 by omega] at this
      exact this
  have hc := trim_canon hs hr hk ht hz
  refine AM.case 26 rfl (fun h2 => ?_) (fun h2 => ?_) <;> (simp only [sxs, sxb, and_self, and_true, true_and, implies_true, imp_self, bne_eq_false_iff_eq, Nat.zero_add, Nat.le_refl, Int.toNat_natCast, Int.ofNat_lt, Int.natCast_nonneg, decide_eq_true_eq, decide_eq_false_iff_not, bne_iff_ne, ne_eq] at h2; try dsimp only [Kd.T, Kds.T, AK.T, AKs.T] at h2)
  · refine AM.run2 hG 100 (by cbv) ?_ ?_
    · (simp only [sxs, sxb, and_self, and_true, true_and, implies_true, imp_self, bne_eq_false_iff_eq, Nat.zero_add, Nat.le_refl, Int.toNat_natCast, Int.ofNat_lt, Int.natCast_nonneg, decide_eq_true_eq, decide_eq_false_iff_not, bne_iff_ne, ne_eq]; try dsimp only [Kd.T, Kds.T, AK.T, AKs.T])
    refine AM.ret2 hG (by cbv) (by (simp only [sxs, sxb, and_self, and_true, true_and, implies_true, imp_self, bne_eq_false_iff_eq, Nat.zero_add, Nat.le_refl, Int.toNat_natCast, Int.ofNat_lt, Int.natCast_nonneg, decide_eq_true_eq, decide_eq_false_iff_not, bne_iff_ne, ne_eq]; try dsimp only [Kd.T, Kds.T, AK.T, AKs.T])) (hQ _ _ (FinRo.of (by cbv) (by cbv) ?_ ?_))
    · (simp only [sxs, sxb, and_self, and_true, true_and, implies_true, imp_self, bne_eq_false_iff_eq, Nat.zero_add, Nat.le_refl, Int.toNat_natCast, Int.ofNat_lt, Int.natCast_nonneg, decide_eq_true_eq, decide_eq_false_iff_not, bne_iff_ne, ne_eq]; try dsimp only [Kd.T, Kds.T, AK.T, AKs.T])
    try (simp only [sxs, sxb, and_self, and_true, true_and, implies_true, imp_self, bne_eq_false_iff_eq, Nat.zero_add, Nat.le_refl, Int.toNat_natCast, Int.ofNat_lt, Int.natCast_nonneg, decide_eq_true_eq, decide_eq_false_iff_not, bne_iff_ne, ne_eq]; try dsimp only [Kd.T, Kds.T, AK.T, AKs.T])
    rw [show valN (s, l, u) = s * dval l from rfl, hc, if_pos (by omega)]
    exact ⟨rfl, rfl⟩
  · refine AM.run2 hG 100 (by cbv) ?_ ?_
    · (simp only [sxs, sxb, and_self, and_true, true_and, implies_true, imp_self, bne_eq_false_iff_eq, Nat.zero_add, Nat.le_refl, Int.toNat_natCast, Int.ofNat_lt, Int.natCast_nonneg, decide_eq_true_eq, decide_eq_false_iff_not, bne_iff_ne, ne_eq]; try dsimp only [Kd.T, Kds.T, AK.T, AKs.T])
    refine AM.ret2 hG (by cbv) (by (simp only [sxs, sxb, and_self, and_true, true_and, implies_true, imp_self, bne_eq_false_iff_eq, Nat.zero_add, Nat.le_refl, Int.toNat_natCast, Int.ofNat_lt, Int.natCast_nonneg, decide_eq_true_eq, decide_eq_false_iff_not, bne_iff_ne, ne_eq]; try dsimp only [Kd.T, Kds.T, AK.T, AKs.T])) (hQ _ _ (FinRo.of (by cbv) (by cbv) ?_ ?_))
    · (simp only [sxs, sxb, and_self, and_true, true_and, implies_true, imp_self, bne_eq_false_iff_eq, Nat.zero_add, Nat.le_refl, Int.toNat_natCast, Int.ofNat_lt, Int.natCast_nonneg, decide_eq_true_eq, decide_eq_false_iff_not, bne_iff_ne, ne_eq]; try dsimp only [Kd.T, Kds.T, AK.T, AKs.T])
    try (simp only [sxs, sxb, and_self, and_true, true_and, implies_true, imp_self, bne_eq_false_iff_eq, Nat.zero_add, Nat.le_refl, Int.toNat_natCast, Int.ofNat_lt, Int.natCast_nonneg, decide_eq_true_eq, decide_eq_false_iff_not, bne_iff_ne, ne_eq]; try dsimp only [Kd.T, Kds.T, AK.T, AKs.T])
    rw [show valN (s, l, u) = s * dval l from rfl, hc, if_neg (by omega)]
    exact ⟨rfl, rfl⟩
def S48 : List AV → Option FOut := sigSpec [NumK] [NumK] (fun x : Num × Unit => ((-x.1.1, x.1.2.1, ()), ())) (fun x : Num × Unit => -1 ≤ x.1.1 ∧ x.1.1 ≤ 1)
theorem fn48 : FnOk Try.prog 48 S48 := by
  refine fn_of (rs := [.cell 2 53]) (env [] trivial) Try.func48 (by kernel_rfl) rfl rfl Try.ntmps48 ?_
  rintro ⟨⟨(s : Int), (l : List Int), u⟩, u2⟩ ⟨h1, h2⟩ G hG hQ
  simp only at h1 h2
  refine AM.run2 hG 100 (by cbv) ?_ ?_
  · (simp only [sxs, sxb, and_self, and_true, true_and, implies_true, imp_self, bne_eq_false_iff_eq, Nat.zero_add, Nat.le_refl, Int.toNat_natCast, Int.ofNat_lt, Int.natCast_nonneg, decide_eq_true_eq, decide_eq_false_iff_not, bne_iff_ne, ne_eq]; try dsimp only [Kd.T, Kds.T, AK.T, AKs.T])
  refine AM.ret2 hG (by cbv) (by (simp only [sxs, sxb, and_self, and_true, true_and, implies_true, imp_self, bne_eq_false_iff_eq, Nat.zero_add, Nat.le_refl, Int.toNat_natCast, Int.ofNat_lt, Int.natCast_nonneg, decide_eq_true_eq, decide_eq_false_iff_not, bne_iff_ne, ne_eq]; try dsimp only [Kd.T, Kds.T, AK.T, AKs.T])) (hQ _ _ (FinRo.of (by cbv) (by cbv) ?_ ?_))
  · (simp only [sxs, sxb, and_self, and_true, true_and, implies_true, imp_self, bne_eq_false_iff_eq, Nat.zero_add, Nat.le_refl, Int.toNat_natCast, Int.ofNat_lt, Int.natCast_nonneg, decide_eq_true_eq, decide_eq_false_iff_not, bne_iff_ne, ne_eq]; try dsimp only [Kd.T, Kds.T, AK.T, AKs.T])
  try (simp only [sxs, sxb, and_self, and_true, true_and, implies_true, imp_self, bne_eq_false_iff_eq, Nat.zero_add, Nat.le_refl, Int.toNat_natCast, Int.ofNat_lt, Int.natCast_nonneg, decide_eq_true_eq, decide_eq_false_iff_not, bne_iff_ne, ne_eq]; try dsimp only [Kd.T, Kds.T, AK.T, AKs.T])
  first
  | (rw [w64 (by omega) (by omega)]; omega)
  | (rw [w64 (by omega) (by omega)])
theorem natAbs_neg_digs (x : Int) : (-(canonN x).1, (canonN x).2.1, ()) = canonN (-x) := by
  simp only [canonN, sgnI, Int.natAbs_neg]
  congr 1
  split <;> split <;> (try split) <;> omega
def S40 : List AV → Option FOut := sigSpec [I64] [NumK] (fun x : Int × Unit => (canonN x.1, ())) (fun x : Int × Unit => inI x.1)
set_option maxHeartbeats 4000000 in
theorem fn40 : FnOk Try.prog 40 S40 := by
  refine fn_ofB (rs := [.cell 2 53]) (env [] trivial) Try.func40 (by kernel_rfl) rfl rfl Try.ntmps40 ?_
  rintro ⟨(n : Int), u⟩ (hn : inI n) G hG hB hQ
  have hB := GB.of hB
  unfold inI at hn
  refine AM.run2 hG 100 (by cbv) ?_ ?_
  · (simp only [sxs, sxb, and_self, and_true, true_and, implies_true, imp_self, bne_eq_false_iff_eq, Nat.zero_add, Nat.le_refl, Int.toNat_natCast, Int.ofNat_lt, Int.natCast_nonneg, decide_eq_true_eq, decide_eq_false_iff_not, bne_iff_ne, ne_eq]; try dsimp only [Kd.T, Kds.T, AK.T, AKs.T])
  refine AM.case 6 rfl (fun h => ?_) (fun h => ?_) <;> (simp only [sxs, sxb, and_self, and_true, true_and, implies_true, imp_self, bne_eq_false_iff_eq, Nat.zero_add, Nat.le_refl, Int.toNat_natCast, Int.ofNat_lt, Int.natCast_nonneg, decide_eq_true_eq, decide_eq_false_iff_not, bne_iff_ne, ne_eq] at h; try dsimp only [Kd.T, Kds.T, AK.T, AKs.T] at h)
  · refine AM.run2 hG 100 (by cbv) ?_ ?_
    · (simp only [sxs, sxb, and_self, and_true, true_and, implies_true, imp_self, bne_eq_false_iff_eq, Nat.zero_add, Nat.le_refl, Int.toNat_natCast, Int.ofNat_lt, Int.natCast_nonneg, decide_eq_true_eq, decide_eq_false_iff_not, bne_iff_ne, ne_eq]; try dsimp only [Kd.T, Kds.T, AK.T, AKs.T])
    refine AM.ret2 hG (by cbv) (by (simp only [sxs, sxb, and_self, and_true, true_and, implies_true, imp_self, bne_eq_false_iff_eq, Nat.zero_add, Nat.le_refl, Int.toNat_natCast, Int.ofNat_lt, Int.natCast_nonneg, decide_eq_true_eq, decide_eq_false_iff_not, bne_iff_ne, ne_eq]; try dsimp only [Kd.T, Kds.T, AK.T, AKs.T])) (hQ _ _ (FinRo.of (by cbv) (by cbv) ?_ ?_))
    · (simp only [sxs, sxb, and_self, and_true, true_and, implies_true, imp_self, bne_eq_false_iff_eq, Nat.zero_add, Nat.le_refl, Int.toNat_natCast, Int.ofNat_lt, Int.natCast_nonneg, decide_eq_true_eq, decide_eq_false_iff_not, bne_iff_ne, ne_eq]; try dsimp only [Kd.T, Kds.T, AK.T, AKs.T])
    try (simp only [sxs, sxb, and_self, and_true, true_and, implies_true, imp_self, bne_eq_false_iff_eq, Nat.zero_add, Nat.le_refl, Int.toNat_natCast, Int.ofNat_lt, Int.natCast_nonneg, decide_eq_true_eq, decide_eq_false_iff_not, bne_iff_ne, ne_eq]; try dsimp only [Kd.T, Kds.T, AK.T, AKs.T])
    subst h
    exact ⟨rfl, digs_zero⟩
  obtain ⟨m, hm⟩ : ∃ m : Nat, n.natAbs = m := ⟨_, rfl⟩
  refine' AM.meet (fun _ : Unit => (frame 28 [(2, .ptr 0 0), (3, .ptr 1 0), (4, .int .u64 (.t fun _ => nI m))], [.box 53 [.int .i64 (.l 0), .nils], .box 53 [.int .i64 (.t fun _ => sgnI n), .nils]])) (fun _ => True) ?_ ?_
  rotate_left 1
  · intro after
    refine AM.run2 hG 100 (by cbv) ?_ ?_
    · (simp only [sxs, sxb, and_self, and_true, true_and, implies_true, imp_self, bne_eq_false_iff_eq, Nat.zero_add, Nat.le_refl, Int.toNat_natCast, Int.ofNat_lt, Int.natCast_nonneg, decide_eq_true_eq, decide_eq_false_iff_not, bne_iff_ne, ne_eq]; try dsimp only [Kd.T, Kds.T, AK.T, AKs.T])
    refine AM.case 12 rfl (fun h2 => ?_) (fun h2 => ?_) <;> (simp only [sxs, sxb, and_self, and_true, true_and, implies_true, imp_self, bne_eq_false_iff_eq, Nat.zero_add, Nat.le_refl, Int.toNat_natCast, Int.ofNat_lt, Int.natCast_nonneg, decide_eq_true_eq, decide_eq_false_iff_not, bne_iff_ne, ne_eq] at h2; try dsimp only [Kd.T, Kds.T, AK.T, AKs.T] at h2)
    · refine AM.run2 hG 100 (by cbv) ?_ ?_
      · (simp only [sxs, sxb, and_self, and_true, true_and, implies_true, imp_self, bne_eq_false_iff_eq, Nat.zero_add, Nat.le_refl, Int.toNat_natCast, Int.ofNat_lt, Int.natCast_nonneg, decide_eq_true_eq, decide_eq_false_iff_not, bne_iff_ne, ne_eq]; try dsimp only [Kd.T, Kds.T, AK.T, AKs.T])
      refine AM.imp2 (by cbv) (by cbv) ?_ ?_ (after () trivial)
      · (simp only [sxs, sxb, and_self, and_true, true_and, implies_true, imp_self, bne_eq_false_iff_eq, Nat.zero_add, Nat.le_refl, Int.toNat_natCast, Int.ofNat_lt, Int.natCast_nonneg, decide_eq_true_eq, decide_eq_false_iff_not, bne_iff_ne, ne_eq]; try dsimp only [Kd.T, Kds.T, AK.T, AKs.T])
        rw [uw, uw]
        omega
      · (simp only [sxs, sxb, and_self, and_true, true_and, implies_true, imp_self, bne_eq_false_iff_eq, Nat.zero_add, Nat.le_refl, Int.toNat_natCast, Int.ofNat_lt, Int.natCast_nonneg, decide_eq_true_eq, decide_eq_false_iff_not, bne_iff_ne, ne_eq]; try dsimp only [Kd.T, Kds.T, AK.T, AKs.T])
        rw [sgnI, if_pos h2]
    · refine AM.run2 hG 100 (by cbv) ?_ ?_
      · (simp only [sxs, sxb, and_self, and_true, true_and, implies_true, imp_self, bne_eq_false_iff_eq, Nat.zero_add, Nat.le_refl, Int.toNat_natCast, Int.ofNat_lt, Int.natCast_nonneg, decide_eq_true_eq, decide_eq_false_iff_not, bne_iff_ne, ne_eq]; try dsimp only [Kd.T, Kds.T, AK.T, AKs.T])
      refine AM.imp2 (by cbv) (by cbv) ?_ ?_ (after () trivial)
      · (simp only [sxs, sxb, and_self, and_true, true_and, implies_true, imp_self, bne_eq_false_iff_eq, Nat.zero_add, Nat.le_refl, Int.toNat_natCast, Int.ofNat_lt, Int.natCast_nonneg, decide_eq_true_eq, decide_eq_false_iff_not, bne_iff_ne, ne_eq]; try dsimp only [Kd.T, Kds.T, AK.T, AKs.T])
        rw [uw]
        omega
      · (simp only [sxs, sxb, and_self, and_true, true_and, implies_true, imp_self, bne_eq_false_iff_eq, Nat.zero_add, Nat.le_refl, Int.toNat_natCast, Int.ofNat_lt, Int.natCast_nonneg, decide_eq_true_eq, decide_eq_false_iff_not, bne_iff_ne, ne_eq]; try dsimp only [Kd.T, Kds.T, AK.T, AKs.T])
        rw [sgnI, if_neg h2, if_neg h]
  rintro ⟨⟩ _
  refine AM.emptyRow 1 1 55 U64 rfl (by show 1 < 2; omega) rfl ?_
  refine AM.loopI (fun x : Nat × List Int => (frame 28 [(2, .ptr 0 0), (3, .ptr 1 0), (4, .int .u64 (.t fun _ => nI x.1))], [.box 53 [.int .i64 (.l 0), .nils], .box 53 [.int .i64 (.t fun _ => sgnI n), .sl 2 1 (.l 0) (.t fun _ => x.2.length)], .row 55 U64 fun _ => x.2]))
    (fun x => digs m = x.2 ++ digs x.1 ∧ x.1 ≤ m) (fun x => x.1) (m, []) ⟨rfl, Nat.le_refl _⟩ ?_ ?_ ?_
  · cbv; (simp only [sxs, sxb, and_self, and_true, true_and, implies_true, imp_self, bne_eq_false_iff_eq, Nat.zero_add, Nat.le_refl, Int.toNat_natCast, Int.ofNat_lt, Int.natCast_nonneg, decide_eq_true_eq, decide_eq_false_iff_not, bne_iff_ne, ne_eq]; try dsimp only [Kd.T, Kds.T, AK.T, AKs.T])
  · cbv; (simp only [sxs, sxb, and_self, and_true, true_and, implies_true, imp_self, bne_eq_false_iff_eq, Nat.zero_add, Nat.le_refl, Int.toNat_natCast, Int.ofNat_lt, Int.natCast_nonneg, decide_eq_true_eq, decide_eq_false_iff_not, bne_iff_ne, ne_eq]; try dsimp only [Kd.T, Kds.T, AK.T, AKs.T])
  have hdl := digs_len 4 m (by have : (65536 : Nat) ^ 4 = 18446744073709551616 := rfl; omega)
  rintro ⟨k, ds⟩ ⟨e1, e3⟩ ih
  simp only at e1 e3 ih
  have hdl2 : ds.length ≤ 4 := by rw [e1, List.length_append] at hdl; omega
  refine AM.run2 hG 100 (by cbv) ?_ ?_
  · (simp only [sxs, sxb, and_self, and_true, true_and, implies_true, imp_self, bne_eq_false_iff_eq, Nat.zero_add, Nat.le_refl, Int.toNat_natCast, Int.ofNat_lt, Int.natCast_nonneg, decide_eq_true_eq, decide_eq_false_iff_not, bne_iff_ne, ne_eq]; try dsimp only [Kd.T, Kds.T, AK.T, AKs.T])
  refine AM.case 17 rfl (fun h2 => ?_) (fun h2 => ?_) <;> (simp only [sxs, sxb, and_self, and_true, true_and, implies_true, imp_self, bne_eq_false_iff_eq, Nat.zero_add, Nat.le_refl, Int.toNat_natCast, Int.ofNat_lt, Int.natCast_nonneg, decide_eq_true_eq, decide_eq_false_iff_not, bne_iff_ne, ne_eq] at h2; try dsimp only [Kd.T, Kds.T, AK.T, AKs.T] at h2)
  · refine AM.run2 hG 100 (by cbv) ?_ ?_
    · (simp only [sxs, sxb, and_self, and_true, true_and, implies_true, imp_self, bne_eq_false_iff_eq, Nat.zero_add, Nat.le_refl, Int.toNat_natCast, Int.ofNat_lt, Int.natCast_nonneg, decide_eq_true_eq, decide_eq_false_iff_not, bne_iff_ne, ne_eq]; try dsimp only [Kd.T, Kds.T, AK.T, AKs.T])
      simp only [maxLen, List.length_take, List.length_cons, List.length_nil]
      omega
    obtain ⟨d2, hd2⟩ : ∃ d2, ds ++ [((k % 65536 : Nat) : Int)] = d2 := ⟨_, rfl⟩
    refine AM.ren hB [0, 1, 4] (by cbv) (by cbv) (by cbv) ?_ ?_ (ih (k / 65536, d2) ⟨by simp only; rw [← hd2, e1, digs_pos (by omega)]; simp, by simp only; omega⟩ (by simp only; omega))
    · (simp only [sxs, sxb, and_self, and_true, true_and, implies_true, imp_self, bne_eq_false_iff_eq, Nat.zero_add, Nat.le_refl, Int.toNat_natCast, Int.ofNat_lt, Int.natCast_nonneg, decide_eq_true_eq, decide_eq_false_iff_not, bne_iff_ne, ne_eq]; try dsimp only [Kd.T, Kds.T, AK.T, AKs.T])
      rw [Int.tdiv_eq_ediv_of_nonneg (by omega), uw]
      omega
    · (simp only [sxs, sxb, and_self, and_true, true_and, implies_true, imp_self, bne_eq_false_iff_eq, Nat.zero_add, Nat.le_refl, Int.toNat_natCast, Int.ofNat_lt, Int.natCast_nonneg, decide_eq_true_eq, decide_eq_false_iff_not, bne_iff_ne, ne_eq]; try dsimp only [Kd.T, Kds.T, AK.T, AKs.T])
      rw [Int.tmod_eq_emod_of_nonneg (by omega), ← hd2, List.length_append]
      exact ⟨rfl, rfl⟩
  · refine AM.run2 hG 100 (by cbv) ?_ ?_
    · (simp only [sxs, sxb, and_self, and_true, true_and, implies_true, imp_self, bne_eq_false_iff_eq, Nat.zero_add, Nat.le_refl, Int.toNat_natCast, Int.ofNat_lt, Int.natCast_nonneg, decide_eq_true_eq, decide_eq_false_iff_not, bne_iff_ne, ne_eq]; try dsimp only [Kd.T, Kds.T, AK.T, AKs.T])
    refine AM.ret2 hG (by cbv) (by (simp only [sxs, sxb, and_self, and_true, true_and, implies_true, imp_self, bne_eq_false_iff_eq, Nat.zero_add, Nat.le_refl, Int.toNat_natCast, Int.ofNat_lt, Int.natCast_nonneg, decide_eq_true_eq, decide_eq_false_iff_not, bne_iff_ne, ne_eq]; try dsimp only [Kd.T, Kds.T, AK.T, AKs.T])) (hQ _ _ (FinRo.of (by cbv) (by cbv) ?_ ?_))
    · (simp only [sxs, sxb, and_self, and_true, true_and, implies_true, imp_self, bne_eq_false_iff_eq, Nat.zero_add, Nat.le_refl, Int.toNat_natCast, Int.ofNat_lt, Int.natCast_nonneg, decide_eq_true_eq, decide_eq_false_iff_not, bne_iff_ne, ne_eq]; try dsimp only [Kd.T, Kds.T, AK.T, AKs.T])
    try (simp only [sxs, sxb, and_self, and_true, true_and, implies_true, imp_self, bne_eq_false_iff_eq, Nat.zero_add, Nat.le_refl, Int.toNat_natCast, Int.ofNat_lt, Int.natCast_nonneg, decide_eq_true_eq, decide_eq_false_iff_not, bne_iff_ne, ne_eq]; try dsimp only [Kd.T, Kds.T, AK.T, AKs.T])
    obtain rfl : k = 0 := by omega
    rw [digs_zero, List.append_nil] at e1
    rw [canonN, hm, e1]
    simp
theorem dval_hd (x : List Int) : dval x = x.getD 0 0 + 65536 * dval x.tail := by
  cases x with
  | nil => rfl
  | cons d l => rfl
theorem getD_tl (x : List Int) (j : Nat) : x.tail.getD j 0 = x.getD (j + 1) 0 := by
  cases x with
  | nil => simp
  | cons d l => simp
theorem drng_tl {x : List Int} (h : drng x) : drng x.tail := fun d hd => h d (List.mem_of_mem_tail hd)
theorem drng_get {x : List Int} (h : drng x) (j : Nat) : 0 ≤ x.getD j 0 ∧ x.getD j 0 < 65536 := by
  by_cases e : j < x.length
  · rw [List.getD_eq_getElem?_getD, List.getElem?_eq_getElem e, Option.getD_some]
    exact h _ (List.getElem_mem e)
  · rw [List.getD_eq_getElem?_getD, List.getElem?_eq_none (by omega)]
    exact ⟨by decide, by decide⟩
theorem dval_zeros : ∀ (m : List Int), (∀ j, m.getD j 0 = 0) → dval m = 0
  | [], _ => rfl
  | d :: m, h => by
    rw [dval_hd, h 0, List.tail_cons, dval_zeros m fun j => by have := h (j + 1); simpa using this]
    rfl
theorem dval_ext : ∀ (x y : List Int), (∀ j, x.getD j 0 = y.getD j 0) → dval x = dval y
  | [], y, h => by
    rw [dval_zeros y fun j => by rw [← h j]; simp]
    rfl
  | d :: x, y, h => by
    rw [dval_hd, dval_hd y, h 0, List.tail_cons, dval_ext x y.tail fun j => by rw [getD_tl, ← h (j + 1)]; simp]
theorem dval_lt : ∀ {k : Nat} {x y : List Int}, drng x → drng y → (∀ j, k < j → x.getD j 0 = y.getD j 0) → x.getD k 0 < y.getD k 0 → dval x < dval y
  | 0, x, y, hx, hy, h, hk => by
    rw [dval_hd, dval_hd y, dval_ext x.tail y.tail fun j => by rw [getD_tl, getD_tl, h (j + 1) (by omega)]]
    omega
  | k + 1, x, y, hx, hy, h, hk => by
    have h1 := dval_lt (drng_tl hx) (drng_tl hy) (k := k) (fun j hj => by rw [getD_tl, getD_tl, h (j + 1) (by omega)]) (by rw [getD_tl, getD_tl]; exact hk)
    have h2 := drng_get hx 0
    have h3 := drng_get hy 0
    rw [dval_hd, dval_hd y]
    omega
def sizeR (x y : List Int) : Int := if dval x < dval y then -1 else if dval y < dval x then 1 else 0
def S59 : List AV → Option FOut := sigSpec [NumK, NumK] [I64] (fun x : Num × Num × Unit => (sizeR x.1.2.1 x.2.1.2.1, ())) (fun x : Num × Num × Unit => drng x.1.2.1 ∧ drng x.2.1.2.1 ∧ x.1.2.1.length ≤ 1000000 ∧ x.2.1.2.1.length ≤ 1000000)
set_option maxHeartbeats 4000000 in
theorem fn59 : FnOk Try.prog 59 S59 := by
  refine fn_of (rs := [.tmp 4]) (env [(55, S55)] ⟨fn55, trivial⟩) Try.func59 (by kernel_rfl) rfl rfl Try.ntmps59 ?_
  rintro ⟨⟨(s : Int), (x : List Int), u⟩, ⟨(s2 : Int), (y : List Int), u2⟩, u3⟩ ⟨hx, hy, hxl, hyl⟩ G hG hQ
  simp only at hx hy hxl hyl
  refine AM.run2 hG 100 (by cbv) ?_ ?_
  · (simp only [sxs, sxb, and_self, and_true, true_and, implies_true, imp_self, bne_eq_false_iff_eq, Nat.zero_add, Nat.le_refl, Int.toNat_natCast, Int.ofNat_lt, Int.natCast_nonneg, decide_eq_true_eq, decide_eq_false_iff_not, bne_iff_ne, ne_eq]; try dsimp only [Kd.T, Kds.T, AK.T, AKs.T])
  refine AM.loopI (fun k : Nat => (frame 34 [(2, .ptr 0 0), (3, .ptr 1 0), (5, .int .i64 (.t fun _ => (k : Int) - 1))], [.box 53 [.int .i64 (.t fun _ => s), .ro U64 fun _ => x], .box 53 [.int .i64 (.t fun _ => s2), .ro U64 fun _ => y]]))
    (fun k => k ≤ 1000000 ∧ ∀ j, k ≤ j → x.getD j 0 = y.getD j 0) (fun k => k) (max x.length y.length) ⟨by omega, fun j hj => by rw [List.getD_eq_getElem?_getD, List.getElem?_eq_none (by omega), List.getD_eq_getElem?_getD, List.getElem?_eq_none (by omega)]⟩ ?_ ?_ ?_
  · cbv; (simp only [sxs, sxb, and_self, and_true, true_and, implies_true, imp_self, bne_eq_false_iff_eq, Nat.zero_add, Nat.le_refl, Int.toNat_natCast, Int.ofNat_lt, Int.natCast_nonneg, decide_eq_true_eq, decide_eq_false_iff_not, bne_iff_ne, ne_eq]; try dsimp only [Kd.T, Kds.T, AK.T, AKs.T])
    have e : (if x.length < y.length then (y.length : Int) else (x.length : Int)) = ((max x.length y.length : Nat) : Int) := by split <;> omega
    simp only [if_true]
    rw [e, w64 (by omega) (by omega)]
  · cbv; (simp only [sxs, sxb, and_self, and_true, true_and, implies_true, imp_self, bne_eq_false_iff_eq, Nat.zero_add, Nat.le_refl, Int.toNat_natCast, Int.ofNat_lt, Int.natCast_nonneg, decide_eq_true_eq, decide_eq_false_iff_not, bne_iff_ne, ne_eq]; try dsimp only [Kd.T, Kds.T, AK.T, AKs.T])
  rintro k ⟨hk, hz⟩ ih
  refine AM.run2 hG 100 (by cbv) ?_ ?_
  · (simp only [sxs, sxb, and_self, and_true, true_and, implies_true, imp_self, bne_eq_false_iff_eq, Nat.zero_add, Nat.le_refl, Int.toNat_natCast, Int.ofNat_lt, Int.natCast_nonneg, decide_eq_true_eq, decide_eq_false_iff_not, bne_iff_ne, ne_eq]; try dsimp only [Kd.T, Kds.T, AK.T, AKs.T])
  refine AM.case 17 rfl (fun h => ?_) (fun h => ?_) <;> (simp only [sxs, sxb, and_self, and_true, true_and, implies_true, imp_self, bne_eq_false_iff_eq, Nat.zero_add, Nat.le_refl, Int.toNat_natCast, Int.ofNat_lt, Int.natCast_nonneg, decide_eq_true_eq, decide_eq_false_iff_not, bne_iff_ne, ne_eq] at h; try dsimp only [Kd.T, Kds.T, AK.T, AKs.T] at h)
  · have hkn : ((k : Int) - 1).toNat = k - 1 := by omega
    refine AM.run2 hG 100 (by cbv) ?_ ?_
    · (simp only [sxs, sxb, and_self, and_true, true_and, implies_true, imp_self, bne_eq_false_iff_eq, Nat.zero_add, Nat.le_refl, Int.toNat_natCast, Int.ofNat_lt, Int.natCast_nonneg, decide_eq_true_eq, decide_eq_false_iff_not, bne_iff_ne, ne_eq]; try dsimp only [Kd.T, Kds.T, AK.T, AKs.T])
      exact h
    refine AM.case 30 rfl (fun h2 => ?_) (fun h2 => ?_) <;> (simp only [sxs, sxb, and_self, and_true, true_and, implies_true, imp_self, bne_eq_false_iff_eq, Nat.zero_add, Nat.le_refl, Int.toNat_natCast, Int.ofNat_lt, Int.natCast_nonneg, decide_eq_true_eq, decide_eq_false_iff_not, bne_iff_ne, ne_eq] at h2; try dsimp only [Kd.T, Kds.T, AK.T, AKs.T] at h2)
    · refine AM.run2 hG 100 (by cbv) ?_ ?_
      · (simp only [sxs, sxb, and_self, and_true, true_and, implies_true, imp_self, bne_eq_false_iff_eq, Nat.zero_add, Nat.le_refl, Int.toNat_natCast, Int.ofNat_lt, Int.natCast_nonneg, decide_eq_true_eq, decide_eq_false_iff_not, bne_iff_ne, ne_eq]; try dsimp only [Kd.T, Kds.T, AK.T, AKs.T])
      refine AM.ret2 hG (by cbv) (by (simp only [sxs, sxb, and_self, and_true, true_and, implies_true, imp_self, bne_eq_false_iff_eq, Nat.zero_add, Nat.le_refl, Int.toNat_natCast, Int.ofNat_lt, Int.natCast_nonneg, decide_eq_true_eq, decide_eq_false_iff_not, bne_iff_ne, ne_eq]; try dsimp only [Kd.T, Kds.T, AK.T, AKs.T])) (hQ _ _ (FinRo.of (by cbv) (by cbv) ?_ ?_))
      · (simp only [sxs, sxb, and_self, and_true, true_and, implies_true, imp_self, bne_eq_false_iff_eq, Nat.zero_add, Nat.le_refl, Int.toNat_natCast, Int.ofNat_lt, Int.natCast_nonneg, decide_eq_true_eq, decide_eq_false_iff_not, bne_iff_ne, ne_eq]; try dsimp only [Kd.T, Kds.T, AK.T, AKs.T])
      try (simp only [sxs, sxb, and_self, and_true, true_and, implies_true, imp_self, bne_eq_false_iff_eq, Nat.zero_add, Nat.le_refl, Int.toNat_natCast, Int.ofNat_lt, Int.natCast_nonneg, decide_eq_true_eq, decide_eq_false_iff_not, bne_iff_ne, ne_eq]; try dsimp only [Kd.T, Kds.T, AK.T, AKs.T])
      rw [hkn] at h2
      have := dval_lt hx hy (k := k - 1) (fun j hj => hz j (by omega)) h2
      rw [sizeR, if_pos this]
    refine AM.run2 hG 100 (by cbv) ?_ ?_
    · (simp only [sxs, sxb, and_self, and_true, true_and, implies_true, imp_self, bne_eq_false_iff_eq, Nat.zero_add, Nat.le_refl, Int.toNat_natCast, Int.ofNat_lt, Int.natCast_nonneg, decide_eq_true_eq, decide_eq_false_iff_not, bne_iff_ne, ne_eq]; try dsimp only [Kd.T, Kds.T, AK.T, AKs.T])
    refine AM.case 33 rfl (fun h3 => ?_) (fun h3 => ?_) <;> (simp only [sxs, sxb, and_self, and_true, true_and, implies_true, imp_self, bne_eq_false_iff_eq, Nat.zero_add, Nat.le_refl, Int.toNat_natCast, Int.ofNat_lt, Int.natCast_nonneg, decide_eq_true_eq, decide_eq_false_iff_not, bne_iff_ne, ne_eq] at h3; try dsimp only [Kd.T, Kds.T, AK.T, AKs.T] at h3)
    · refine AM.run2 hG 100 (by cbv) ?_ ?_
      · (simp only [sxs, sxb, and_self, and_true, true_and, implies_true, imp_self, bne_eq_false_iff_eq, Nat.zero_add, Nat.le_refl, Int.toNat_natCast, Int.ofNat_lt, Int.natCast_nonneg, decide_eq_true_eq, decide_eq_false_iff_not, bne_iff_ne, ne_eq]; try dsimp only [Kd.T, Kds.T, AK.T, AKs.T])
      refine AM.ret2 hG (by cbv) (by (simp only [sxs, sxb, and_self, and_true, true_and, implies_true, imp_self, bne_eq_false_iff_eq, Nat.zero_add, Nat.le_refl, Int.toNat_natCast, Int.ofNat_lt, Int.natCast_nonneg, decide_eq_true_eq, decide_eq_false_iff_not, bne_iff_ne, ne_eq]; try dsimp only [Kd.T, Kds.T, AK.T, AKs.T])) (hQ _ _ (FinRo.of (by cbv) (by cbv) ?_ ?_))
      · (simp only [sxs, sxb, and_self, and_true, true_and, implies_true, imp_self, bne_eq_false_iff_eq, Nat.zero_add, Nat.le_refl, Int.toNat_natCast, Int.ofNat_lt, Int.natCast_nonneg, decide_eq_true_eq, decide_eq_false_iff_not, bne_iff_ne, ne_eq]; try dsimp only [Kd.T, Kds.T, AK.T, AKs.T])
      try (simp only [sxs, sxb, and_self, and_true, true_and, implies_true, imp_self, bne_eq_false_iff_eq, Nat.zero_add, Nat.le_refl, Int.toNat_natCast, Int.ofNat_lt, Int.natCast_nonneg, decide_eq_true_eq, decide_eq_false_iff_not, bne_iff_ne, ne_eq]; try dsimp only [Kd.T, Kds.T, AK.T, AKs.T])
      rw [hkn] at h3
      have := dval_lt hy hx (k := k - 1) (fun j hj => (hz j (by omega)).symm) h3
      rw [sizeR, if_neg (by omega), if_pos this]
    refine AM.run2 hG 100 (by cbv) ?_ ?_
    · (simp only [sxs, sxb, and_self, and_true, true_and, implies_true, imp_self, bne_eq_false_iff_eq, Nat.zero_add, Nat.le_refl, Int.toNat_natCast, Int.ofNat_lt, Int.natCast_nonneg, decide_eq_true_eq, decide_eq_false_iff_not, bne_iff_ne, ne_eq]; try dsimp only [Kd.T, Kds.T, AK.T, AKs.T])
    refine AM.imp2 (by cbv) (by cbv) ?_ ?_ (ih (k - 1) ⟨by omega, ?_⟩ (by omega))
    · (simp only [sxs, sxb, and_self, and_true, true_and, implies_true, imp_self, bne_eq_false_iff_eq, Nat.zero_add, Nat.le_refl, Int.toNat_natCast, Int.ofNat_lt, Int.natCast_nonneg, decide_eq_true_eq, decide_eq_false_iff_not, bne_iff_ne, ne_eq]; try dsimp only [Kd.T, Kds.T, AK.T, AKs.T])
      rw [w64 (by omega) (by omega)]
      omega
    · (simp only [sxs, sxb, and_self, and_true, true_and, implies_true, imp_self, bne_eq_false_iff_eq, Nat.zero_add, Nat.le_refl, Int.toNat_natCast, Int.ofNat_lt, Int.natCast_nonneg, decide_eq_true_eq, decide_eq_false_iff_not, bne_iff_ne, ne_eq]; try dsimp only [Kd.T, Kds.T, AK.T, AKs.T])
    · intro j hj
      rw [hkn] at h2 h3
      by_cases e : j = k - 1
      · rw [e]; omega
      · exact hz j (by omega)
  · obtain rfl : k = 0 := by omega
    refine AM.run2 hG 100 (by cbv) ?_ ?_
    · (simp only [sxs, sxb, and_self, and_true, true_and, implies_true, imp_self, bne_eq_false_iff_eq, Nat.zero_add, Nat.le_refl, Int.toNat_natCast, Int.ofNat_lt, Int.natCast_nonneg, decide_eq_true_eq, decide_eq_false_iff_not, bne_iff_ne, ne_eq]; try dsimp only [Kd.T, Kds.T, AK.T, AKs.T])
    refine AM.ret2 hG (by cbv) (by (simp only [sxs, sxb, and_self, and_true, true_and, implies_true, imp_self, bne_eq_false_iff_eq, Nat.zero_add, Nat.le_refl, Int.toNat_natCast, Int.ofNat_lt, Int.natCast_nonneg, decide_eq_true_eq, decide_eq_false_iff_not, bne_iff_ne, ne_eq]; try dsimp only [Kd.T, Kds.T, AK.T, AKs.T])) (hQ _ _ (FinRo.of (by cbv) (by cbv) ?_ ?_))
    · (simp only [sxs, sxb, and_self, and_true, true_and, implies_true, imp_self, bne_eq_false_iff_eq, Nat.zero_add, Nat.le_refl, Int.toNat_natCast, Int.ofNat_lt, Int.natCast_nonneg, decide_eq_true_eq, decide_eq_false_iff_not, bne_iff_ne, ne_eq]; try dsimp only [Kd.T, Kds.T, AK.T, AKs.T])
    try (simp only [sxs, sxb, and_self, and_true, true_and, implies_true, imp_self, bne_eq_false_iff_eq, Nat.zero_add, Nat.le_refl, Int.toNat_natCast, Int.ofNat_lt, Int.natCast_nonneg, decide_eq_true_eq, decide_eq_false_iff_not, bne_iff_ne, ne_eq]; try dsimp only [Kd.T, Kds.T, AK.T, AKs.T])
    have := dval_ext x y fun j => hz j (by omega)
    rw [sizeR, if_neg (by omega), if_neg (by omega)]
def S58 : List AV → Option FOut := sigSpec [NumK, NumK] [.bool] (fun x : Num × Num × Unit => (decide (valN x.1 < valN x.2.1), ())) (fun x : Num × Num × Unit => okN x.1 ∧ okN x.2.1 ∧ x.1.2.1.length ≤ 1000000 ∧ x.2.1.2.1.length ≤ 1000000)
theorem sgn_lt (a b : Int) : sgnI a ≠ sgnI b → (sgnI a < sgnI b ↔ a < b) := by
  unfold sgnI
  intro h
  split <;> split <;> (try split) <;> (try split) <;> simp_all <;> omega
theorem sgn_neg {a : Int} (h : sgnI a < 0) : a < 0 := by
  unfold sgnI at h
  split at h
  · assumption
  · split at h <;> omega
theorem sgn_nn {a : Int} (h : ¬ sgnI a < 0) : 0 ≤ a := by
  unfold sgnI at h
  split at h <;> omega
set_option maxHeartbeats 4000000 in
theorem fn58 : FnOk Try.prog 58 S58 := by
  refine fn_of (rs := [.tmp 4]) (env [(59, S59)] ⟨fn59, trivial⟩) Try.func58 (by kernel_rfl) rfl rfl Try.ntmps58 ?_
  rintro ⟨⟨(s : Int), (x : List Int), u⟩, ⟨(s2 : Int), (y : List Int), u2⟩, u3⟩ ⟨hx, hy, hxl, hyl⟩ G hG hQ
  simp only at hx hy hxl hyl
  obtain ⟨f1, f2, f3, f4⟩ := okN_facts hx
  obtain ⟨g1, g2, g3, g4⟩ := okN_facts hy
  simp only at f1 f3 f4 g1 g3 g4
  obtain ⟨a, ha⟩ : ∃ a, valN (s, x, u) = a := ⟨_, rfl⟩
  obtain ⟨b, hb⟩ : ∃ b, valN (s2, y, u2) = b := ⟨_, rfl⟩
  rw [ha] at f3 f4
  rw [hb] at g3 g4
  refine AM.run2 hG 100 (by cbv) ?_ ?_
  · (simp only [sxs, sxb, and_self, and_true, true_and, implies_true, imp_self, bne_eq_false_iff_eq, Nat.zero_add, Nat.le_refl, Int.toNat_natCast, Int.ofNat_lt, Int.natCast_nonneg, decide_eq_true_eq, decide_eq_false_iff_not, bne_iff_ne, ne_eq]; try dsimp only [Kd.T, Kds.T, AK.T, AKs.T])
  refine AM.case 9 rfl (fun h => ?_) (fun h => ?_) <;> (simp only [sxs, sxb, and_self, and_true, true_and, implies_true, imp_self, bne_eq_false_iff_eq, Nat.zero_add, Nat.le_refl, Int.toNat_natCast, Int.ofNat_lt, Int.natCast_nonneg, decide_eq_true_eq, decide_eq_false_iff_not, bne_iff_ne, ne_eq] at h; try dsimp only [Kd.T, Kds.T, AK.T, AKs.T] at h)
  · refine AM.run2 hG 100 (by cbv) ?_ ?_
    · (simp only [sxs, sxb, and_self, and_true, true_and, implies_true, imp_self, bne_eq_false_iff_eq, Nat.zero_add, Nat.le_refl, Int.toNat_natCast, Int.ofNat_lt, Int.natCast_nonneg, decide_eq_true_eq, decide_eq_false_iff_not, bne_iff_ne, ne_eq]; try dsimp only [Kd.T, Kds.T, AK.T, AKs.T])
    refine AM.ret2 hG (by cbv) (by (simp only [sxs, sxb, and_self, and_true, true_and, implies_true, imp_self, bne_eq_false_iff_eq, Nat.zero_add, Nat.le_refl, Int.toNat_natCast, Int.ofNat_lt, Int.natCast_nonneg, decide_eq_true_eq, decide_eq_false_iff_not, bne_iff_ne, ne_eq]; try dsimp only [Kd.T, Kds.T, AK.T, AKs.T])) (hQ _ _ (FinRo.of (by cbv) (by cbv) ?_ ?_))
    · (simp only [sxs, sxb, and_self, and_true, true_and, implies_true, imp_self, bne_eq_false_iff_eq, Nat.zero_add, Nat.le_refl, Int.toNat_natCast, Int.ofNat_lt, Int.natCast_nonneg, decide_eq_true_eq, decide_eq_false_iff_not, bne_iff_ne, ne_eq]; try dsimp only [Kd.T, Kds.T, AK.T, AKs.T])
    try (simp only [sxs, sxb, and_self, and_true, true_and, implies_true, imp_self, bne_eq_false_iff_eq, Nat.zero_add, Nat.le_refl, Int.toNat_natCast, Int.ofNat_lt, Int.natCast_nonneg, decide_eq_true_eq, decide_eq_false_iff_not, bne_iff_ne, ne_eq]; try dsimp only [Kd.T, Kds.T, AK.T, AKs.T])
    rw [Bool.eq_iff_iff, ltI_t, decide_eq_true_eq, ha, hb, f4, g4]
    exact sgn_lt a b (by rw [← f4, ← g4]; exact h)
  refine AM.run2 hG 100 (by cbv) ?_ ?_
  · (simp only [sxs, sxb, and_self, and_true, true_and, implies_true, imp_self, bne_eq_false_iff_eq, Nat.zero_add, Nat.le_refl, Int.toNat_natCast, Int.ofNat_lt, Int.natCast_nonneg, decide_eq_true_eq, decide_eq_false_iff_not, bne_iff_ne, ne_eq]; try dsimp only [Kd.T, Kds.T, AK.T, AKs.T])
  refine AM.case 17 rfl (fun h2 => ?_) (fun h2 => ?_) <;> (simp only [sxs, sxb, and_self, and_true, true_and, implies_true, imp_self, bne_eq_false_iff_eq, Nat.zero_add, Nat.le_refl, Int.toNat_natCast, Int.ofNat_lt, Int.natCast_nonneg, decide_eq_true_eq, decide_eq_false_iff_not, bne_iff_ne, ne_eq] at h2; try dsimp only [Kd.T, Kds.T, AK.T, AKs.T] at h2)
  · refine AM.run2 hG 100 (by cbv) ?_ ?_
    · (simp only [sxs, sxb, and_self, and_true, true_and, implies_true, imp_self, bne_eq_false_iff_eq, Nat.zero_add, Nat.le_refl, Int.toNat_natCast, Int.ofNat_lt, Int.natCast_nonneg, decide_eq_true_eq, decide_eq_false_iff_not, bne_iff_ne, ne_eq]; try dsimp only [Kd.T, Kds.T, AK.T, AKs.T])
      exact ⟨f1, g1, hxl, hyl⟩
    refine AM.ret2 hG (by cbv) (by (simp only [sxs, sxb, and_self, and_true, true_and, implies_true, imp_self, bne_eq_false_iff_eq, Nat.zero_add, Nat.le_refl, Int.toNat_natCast, Int.ofNat_lt, Int.natCast_nonneg, decide_eq_true_eq, decide_eq_false_iff_not, bne_iff_ne, ne_eq]; try dsimp only [Kd.T, Kds.T, AK.T, AKs.T])) (hQ _ _ (FinRo.of (by cbv) (by cbv) ?_ ?_))
    · (simp only [sxs, sxb, and_self, and_true, true_and, implies_true, imp_self, bne_eq_false_iff_eq, Nat.zero_add, Nat.le_refl, Int.toNat_natCast, Int.ofNat_lt, Int.natCast_nonneg, decide_eq_true_eq, decide_eq_false_iff_not, bne_iff_ne, ne_eq]; try dsimp only [Kd.T, Kds.T, AK.T, AKs.T])
    try (simp only [sxs, sxb, and_self, and_true, true_and, implies_true, imp_self, bne_eq_false_iff_eq, Nat.zero_add, Nat.le_refl, Int.toNat_natCast, Int.ofNat_lt, Int.natCast_nonneg, decide_eq_true_eq, decide_eq_false_iff_not, bne_iff_ne, ne_eq]; try dsimp only [Kd.T, Kds.T, AK.T, AKs.T])
    have ha0 := sgn_neg (f4 ▸ h2)
    have hb0 := sgn_neg (g4 ▸ h ▸ h2)
    rw [Bool.eq_iff_iff, ltI_t, decide_eq_true_eq, ha, hb, sizeR, f3, g3]
    split
    · omega
    · split <;> omega
  · refine AM.run2 hG 100 (by cbv) ?_ ?_
    · (simp only [sxs, sxb, and_self, and_true, true_and, implies_true, imp_self, bne_eq_false_iff_eq, Nat.zero_add, Nat.le_refl, Int.toNat_natCast, Int.ofNat_lt, Int.natCast_nonneg, decide_eq_true_eq, decide_eq_false_iff_not, bne_iff_ne, ne_eq]; try dsimp only [Kd.T, Kds.T, AK.T, AKs.T])
      exact ⟨f1, g1, hxl, hyl⟩
    refine AM.ret2 hG (by cbv) (by (simp only [sxs, sxb, and_self, and_true, true_and, implies_true, imp_self, bne_eq_false_iff_eq, Nat.zero_add, Nat.le_refl, Int.toNat_natCast, Int.ofNat_lt, Int.natCast_nonneg, decide_eq_true_eq, decide_eq_false_iff_not, bne_iff_ne, ne_eq]; try dsimp only [Kd.T, Kds.T, AK.T, AKs.T])) (hQ _ _ (FinRo.of (by cbv) (by cbv) ?_ ?_))
    · (simp only [sxs, sxb, and_self, and_true, true_and, implies_true, imp_self, bne_eq_false_iff_eq, Nat.zero_add, Nat.le_refl, Int.toNat_natCast, Int.ofNat_lt, Int.natCast_nonneg, decide_eq_true_eq, decide_eq_false_iff_not, bne_iff_ne, ne_eq]; try dsimp only [Kd.T, Kds.T, AK.T, AKs.T])
    try (simp only [sxs, sxb, and_self, and_true, true_and, implies_true, imp_self, bne_eq_false_iff_eq, Nat.zero_add, Nat.le_refl, Int.toNat_natCast, Int.ofNat_lt, Int.natCast_nonneg, decide_eq_true_eq, decide_eq_false_iff_not, bne_iff_ne, ne_eq]; try dsimp only [Kd.T, Kds.T, AK.T, AKs.T])
    have ha0 := sgn_nn (f4 ▸ h2)
    have hb0 := sgn_nn (g4 ▸ h ▸ h2)
    rw [Bool.eq_iff_iff, ltI_t, decide_eq_true_eq, ha, hb, sizeR, f3, g3]
    split
    · omega
    · split <;> omega
theorem dval_lt_pow : ∀ {n : Nat} {l : List Int}, drng l → l.length ≤ n → dval l < 65536 ^ n
  | n, [], _, _ => by rw [dval]; exact Int.pow_pos (by decide)
  | 0, d :: l, _, h => by simp at h
  | n + 1, d :: l, h, hl => by
    have h1 := h d (by simp)
    have h2 := dval_lt_pow (n := n) (l := l) (fun x hx => h x (by simp [hx])) (by simpa using hl)
    rw [dval, Int.pow_succ]
    omega
theorem dval_snoc {l : List Int} {i : Nat} (h : l.length = i) (d : Int) : dval (l ++ [d]) = dval l + 65536 ^ i * d := by
  rw [dval_app, h]
  simp [dval]
theorem take_succD {l : List Int} {i : Nat} (h : i < l.length) : l.take (i + 1) = l.take i ++ [l.getD i 0] := by
  rw [List.take_add_one, List.getD_eq_getElem?_getD, List.getElem?_eq_getElem h]
  rfl
theorem sizeR_lt (x y : List Int) : sizeR x y < 0 ↔ dval x < dval y := by
  unfold sizeR
  split
  · omega
  · split <;> omega
theorem dval_take_succ (x : List Int) (i : Nat) : dval (x.take (i + 1)) = dval (x.take i) + 65536 ^ i * x.getD i 0 := by
  by_cases e : i < x.length
  · rw [take_succD e, dval_snoc (i := i) (by rw [List.length_take]; omega)]
  · rw [List.take_of_length_le (by omega), List.take_of_length_le (by omega), List.getD_eq_getElem?_getD, List.getElem?_eq_none (by omega)]
    simp
theorem drng_snoc {l : List Int} {d : Int} (h : drng l) (hd : 0 ≤ d ∧ d < 65536) : drng (l ++ [d]) := by
  intro x hx
  rcases List.mem_append.1 hx with hx | hx
  · exact h x hx
  · rw [List.mem_singleton.1 hx]; exact hd
theorem plus_same {P v vx vy X Y c : Int} (h : v + P * c = vx + vy) : v + P * ((c + X + Y) % 65536) + P * 65536 * ((c + X + Y) / 65536) = vx + P * X + (vy + P * Y) := by
  have e : P * ((c + X + Y) % 65536) + P * 65536 * ((c + X + Y) / 65536) = P * c + P * X + P * Y := by
    rw [Int.mul_assoc, ← Int.mul_add, ← Int.mul_add, ← Int.mul_add]
    congr 1
    omega
  omega
theorem plus_diff {P v vx vy X Y c : Int} (h : v - P * c = vx - vy) : v + P * ((X + 65536 - Y - c) % 65536) - P * 65536 * (1 - (X + 65536 - Y - c) / 65536) = vx + P * X - (vy + P * Y) := by
  have e : P * ((X + 65536 - Y - c) % 65536) - P * 65536 * (1 - (X + 65536 - Y - c) / 65536) = P * X - P * Y - P * c := by
    rw [Int.mul_assoc, ← Int.mul_sub, ← Int.mul_sub, ← Int.mul_sub]
    congr 1
    omega
  omega
def plusInv (same : Prop) [Decidable same] (P v c vx vy : Int) : Prop := if same then v + P * c = vx + vy else v - P * c = vx - vy
theorem plus_end {s s2 : Int} {x y ds : List Int} {n : Nat} {c : Int} (hs : s = -1 ∨ s = 1) (hs2 : s2 = -1 ∨ s2 = 1) (hx : drng x) (hy : drng y) (hd : drng ds) (hxl : x.length ≤ n) (hyl : y.length ≤ n) (hdl : ds.length ≤ n + 1) (hc : 0 ≤ c ∧ c ≤ 1)
    (hle : s ≠ s2 → dval y ≤ dval x) (h : plusInv (s = s2) (65536 ^ (n + 1)) (dval ds) c (dval x) (dval y)) : s * dval ds = s * dval x + s2 * dval y := by
  have h1 := dval_lt_pow hx hxl
  have h2 := dval_lt_pow hy hyl
  have h3 := dval_lt_pow hd hdl
  have h4 := dval_nonneg hd
  have hp : (65536 : Int) ^ (n + 1) = 65536 ^ n * 65536 := Int.pow_succ _ _
  obtain ⟨P, hP⟩ : ∃ P : Int, P = 65536 ^ n := ⟨_, rfl⟩
  rw [hp, ← hP] at h h3
  rw [← hP] at h1 h2
  have hc' : c = 0 ∨ c = 1 := by omega
  unfold plusInv at h
  split at h
  · rename_i e
    subst e
    have hc0 : c = 0 := by
      rcases hc' with rfl | rfl
      · rfl
      · rw [Int.mul_one] at h; omega
    subst hc0
    rw [Int.mul_zero] at h
    rw [← Int.mul_add]
    congr 1
    omega
  · rename_i e
    have hle := hle e
    have hc0 : c = 0 := by
      rcases hc' with rfl | rfl
      · rfl
      · rw [Int.mul_one] at h; omega
    subst hc0
    rw [Int.mul_zero] at h
    have : s2 = -s := by omega
    subst this
    rcases hs with rfl | rfl <;> omega
theorem sgn_ne {a : Int} (h : sgnI a ≠ 0) : sgnI a = -1 ∨ sgnI a = 1 := by
  unfold sgnI at *
  split
  · exact .inl rfl
  · split
    · rename_i h2; simp [h2] at h
    · exact .inr rfl
theorem sgn_zero {a : Int} (h : sgnI a = 0) : a = 0 := by
  unfold sgnI at h
  split at h
  · cases h
  · split at h
    · assumption
    · cases h
theorem AM.meet2 {G : Gl} {κ : Type} (E : κ → List AV × List Blk) (J : κ → Prop) {c : Cfg} {k' : List It} (go : (∀ e, J e → AM G ⟨(E e).1, (E e).2, k'⟩) → AM G c) (after : ∀ e, J e → AM G ⟨(E e).1, (E e).2, k'⟩) : AM G c := go after
def S47 : List AV → Option FOut := sigSpec [NumK, NumK] [NumK] (fun x : Num × Num × Unit => (canonN (valN x.1 + valN x.2.1), ())) (fun x : Num × Num × Unit => okN x.1 ∧ okN x.2.1 ∧ x.1.2.1.length ≤ 1000 ∧ x.2.1.2.1.length ≤ 1000)
set_option maxHeartbeats 8000000 in
theorem fn47 : FnOk Try.prog 47 S47 := by
  refine fn_ofB (rs := [.cell 4 53]) (env [(59, S59), (55, S55), (56, S56)] ⟨fn59, fn55, fn56, trivial⟩) Try.func47 (by kernel_rfl) rfl rfl Try.ntmps47 ?_
  rintro ⟨⟨(s : Int), (x : List Int), u⟩, ⟨(s2 : Int), (y : List Int), u2⟩, u3⟩ ⟨hx, hy, hxl, hyl⟩ G hG hB hQ
  have hB := GB.of hB
  simp only at hx hy hxl hyl
  obtain ⟨f1, f2, f3, f4⟩ := okN_facts hx
  obtain ⟨g1, g2, g3, g4⟩ := okN_facts hy
  simp only at f1 f3 f4 g1 g3 g4
  refine AM.run2 hG 100 (by cbv) ?_ ?_
  · (simp only [sxs, sxb, and_self, and_true, true_and, implies_true, imp_self, bne_eq_false_iff_eq, Nat.zero_add, Nat.le_refl, Int.toNat_natCast, Int.ofNat_lt, Int.natCast_nonneg, decide_eq_true_eq, decide_eq_false_iff_not, bne_iff_ne, ne_eq]; try dsimp only [Kd.T, Kds.T, AK.T, AKs.T])
  refine AM.case 11 rfl (fun h => ?_) (fun h => ?_) <;> (simp only [sxs, sxb, and_self, and_true, true_and, implies_true, imp_self, bne_eq_false_iff_eq, Nat.zero_add, Nat.le_refl, Int.toNat_natCast, Int.ofNat_lt, Int.natCast_nonneg, decide_eq_true_eq, decide_eq_false_iff_not, bne_iff_ne, ne_eq] at h; try dsimp only [Kd.T, Kds.T, AK.T, AKs.T] at h)
  · refine AM.run2 hG 100 (by cbv) ?_ ?_
    · (simp only [sxs, sxb, and_self, and_true, true_and, implies_true, imp_self, bne_eq_false_iff_eq, Nat.zero_add, Nat.le_refl, Int.toNat_natCast, Int.ofNat_lt, Int.natCast_nonneg, decide_eq_true_eq, decide_eq_false_iff_not, bne_iff_ne, ne_eq]; try dsimp only [Kd.T, Kds.T, AK.T, AKs.T])
    refine AM.ret2 hG (by cbv) (by (simp only [sxs, sxb, and_self, and_true, true_and, implies_true, imp_self, bne_eq_false_iff_eq, Nat.zero_add, Nat.le_refl, Int.toNat_natCast, Int.ofNat_lt, Int.natCast_nonneg, decide_eq_true_eq, decide_eq_false_iff_not, bne_iff_ne, ne_eq]; try dsimp only [Kd.T, Kds.T, AK.T, AKs.T])) (hQ _ _ (FinRo.of (by cbv) (by cbv) ?_ ?_))
    · (simp only [sxs, sxb, and_self, and_true, true_and, implies_true, imp_self, bne_eq_false_iff_eq, Nat.zero_add, Nat.le_refl, Int.toNat_natCast, Int.ofNat_lt, Int.natCast_nonneg, decide_eq_true_eq, decide_eq_false_iff_not, bne_iff_ne, ne_eq]; try dsimp only [Kd.T, Kds.T, AK.T, AKs.T])
    try (simp only [sxs, sxb, and_self, and_true, true_and, implies_true, imp_self, bne_eq_false_iff_eq, Nat.zero_add, Nat.le_refl, Int.toNat_natCast, Int.ofNat_lt, Int.natCast_nonneg, decide_eq_true_eq, decide_eq_false_iff_not, bne_iff_ne, ne_eq]; try dsimp only [Kd.T, Kds.T, AK.T, AKs.T])
    have e0 : valN (s, x, u) = 0 := by unfold valN; simp only; rw [h, Int.zero_mul]
    have e1 : canonN (valN (s, x, u) + valN (s2, y, u2)) = (s2, y, u2) := by rw [e0, Int.zero_add]; exact hy.symm
    rw [e1]
    exact ⟨rfl, rfl⟩
  refine AM.run2 hG 100 (by cbv) ?_ ?_
  · (simp only [sxs, sxb, and_self, and_true, true_and, implies_true, imp_self, bne_eq_false_iff_eq, Nat.zero_add, Nat.le_refl, Int.toNat_natCast, Int.ofNat_lt, Int.natCast_nonneg, decide_eq_true_eq, decide_eq_false_iff_not, bne_iff_ne, ne_eq]; try dsimp only [Kd.T, Kds.T, AK.T, AKs.T])
  refine AM.case 16 rfl (fun h2 => ?_) (fun h2 => ?_) <;> (simp only [sxs, sxb, and_self, and_true, true_and, implies_true, imp_self, bne_eq_false_iff_eq, Nat.zero_add, Nat.le_refl, Int.toNat_natCast, Int.ofNat_lt, Int.natCast_nonneg, decide_eq_true_eq, decide_eq_false_iff_not, bne_iff_ne, ne_eq] at h2; try dsimp only [Kd.T, Kds.T, AK.T, AKs.T] at h2)
  · refine AM.run2 hG 100 (by cbv) ?_ ?_
    · (simp only [sxs, sxb, and_self, and_true, true_and, implies_true, imp_self, bne_eq_false_iff_eq, Nat.zero_add, Nat.le_refl, Int.toNat_natCast, Int.ofNat_lt, Int.natCast_nonneg, decide_eq_true_eq, decide_eq_false_iff_not, bne_iff_ne, ne_eq]; try dsimp only [Kd.T, Kds.T, AK.T, AKs.T])
    refine AM.ret2 hG (by cbv) (by (simp only [sxs, sxb, and_self, and_true, true_and, implies_true, imp_self, bne_eq_false_iff_eq, Nat.zero_add, Nat.le_refl, Int.toNat_natCast, Int.ofNat_lt, Int.natCast_nonneg, decide_eq_true_eq, decide_eq_false_iff_not, bne_iff_ne, ne_eq]; try dsimp only [Kd.T, Kds.T, AK.T, AKs.T])) (hQ _ _ (FinRo.of (by cbv) (by cbv) ?_ ?_))
    · (simp only [sxs, sxb, and_self, and_true, true_and, implies_true, imp_self, bne_eq_false_iff_eq, Nat.zero_add, Nat.le_refl, Int.toNat_natCast, Int.ofNat_lt, Int.natCast_nonneg, decide_eq_true_eq, decide_eq_false_iff_not, bne_iff_ne, ne_eq]; try dsimp only [Kd.T, Kds.T, AK.T, AKs.T])
    try (simp only [sxs, sxb, and_self, and_true, true_and, implies_true, imp_self, bne_eq_false_iff_eq, Nat.zero_add, Nat.le_refl, Int.toNat_natCast, Int.ofNat_lt, Int.natCast_nonneg, decide_eq_true_eq, decide_eq_false_iff_not, bne_iff_ne, ne_eq]; try dsimp only [Kd.T, Kds.T, AK.T, AKs.T])
    have e0 : valN (s2, y, u2) = 0 := by unfold valN; simp only; rw [h2, Int.zero_mul]
    have e1 : canonN (valN (s, x, u) + valN (s2, y, u2)) = (s, x, u) := by rw [e0, Int.add_zero]; exact hx.symm
    rw [e1]
    exact ⟨rfl, rfl⟩
  have hs1 : s = -1 ∨ s = 1 := by rw [f4]; exact sgn_ne (by rw [← f4]; exact h)
  have hs2 : s2 = -1 ∨ s2 = 1 := by rw [g4]; exact sgn_ne (by rw [← g4]; exact h2)
  refine AM.run2 hG 100 (by cbv) ?_ ?_
  · (simp only [sxs, sxb, and_self, and_true, true_and, implies_true, imp_self, bne_eq_false_iff_eq, Nat.zero_add, Nat.le_refl, Int.toNat_natCast, Int.ofNat_lt, Int.natCast_nonneg, decide_eq_true_eq, decide_eq_false_iff_not, bne_iff_ne, ne_eq]; try dsimp only [Kd.T, Kds.T, AK.T, AKs.T])
    exact fun _ => ⟨f1, g1, by omega, by omega⟩
  refine' AM.meet2 (fun e : Num × Num => (frame 95 [(2, .ptr 0 0), (3, .ptr 1 0), (4, .ptr 2 0)], [.box 53 [.int .i64 (.t fun _ => e.1.1), .ro U64 fun _ => e.1.2.1], .box 53 [.int .i64 (.t fun _ => e.2.1), .ro U64 fun _ => e.2.2.1], .box 53 [.int .i64 (.l 0), .nils]]))
    (fun e => (e.1.1 = -1 ∨ e.1.1 = 1) ∧ (e.2.1 = -1 ∨ e.2.1 = 1) ∧ drng e.1.2.1 ∧ drng e.2.2.1 ∧ e.1.2.1.length ≤ 1000 ∧ e.2.2.1.length ≤ 1000 ∧ (e.1.1 ≠ e.2.1 → dval e.2.2.1 ≤ dval e.1.2.1) ∧ valN e.1 + valN e.2 = valN (s, x, u) + valN (s2, y, u2)) ?_ ?_
  rotate_left 1
  · intro after
    refine AM.case 21 rfl (fun c => ?_) (fun c => ?_) <;> (simp only [sxs, sxb, and_self, and_true, true_and, implies_true, imp_self, bne_eq_false_iff_eq, Nat.zero_add, Nat.le_refl, Int.toNat_natCast, Int.ofNat_lt, Int.natCast_nonneg, decide_eq_true_eq, decide_eq_false_iff_not, bne_iff_ne, ne_eq] at c; try dsimp only [Kd.T, Kds.T, AK.T, AKs.T] at c)
    · refine AM.runTo2 hG 35 100 (by cbv) (by (simp only [sxs, sxb, and_self, and_true, true_and, implies_true, imp_self, bne_eq_false_iff_eq, Nat.zero_add, Nat.le_refl, Int.toNat_natCast, Int.ofNat_lt, Int.natCast_nonneg, decide_eq_true_eq, decide_eq_false_iff_not, bne_iff_ne, ne_eq]; try dsimp only [Kd.T, Kds.T, AK.T, AKs.T])) ?_
      refine AM.imp2 (by cbv) (by cbv) ?_ ?_ (after ((s2, y, u2), (s, x, u)) ⟨hs2, hs1, g1, f1, hyl, hxl, ?_, Int.add_comm _ _⟩)
      · (simp only [sxs, sxb, and_self, and_true, true_and, implies_true, imp_self, bne_eq_false_iff_eq, Nat.zero_add, Nat.le_refl, Int.toNat_natCast, Int.ofNat_lt, Int.natCast_nonneg, decide_eq_true_eq, decide_eq_false_iff_not, bne_iff_ne, ne_eq]; try dsimp only [Kd.T, Kds.T, AK.T, AKs.T])
      · (simp only [sxs, sxb, and_self, and_true, true_and, implies_true, imp_self, bne_eq_false_iff_eq, Nat.zero_add, Nat.le_refl, Int.toNat_natCast, Int.ofNat_lt, Int.natCast_nonneg, decide_eq_true_eq, decide_eq_false_iff_not, bne_iff_ne, ne_eq]; try dsimp only [Kd.T, Kds.T, AK.T, AKs.T])
      · intro _
        have := (sizeR_lt x y).1 c.2
        simp only
        omega
    · refine AM.runTo2 hG 35 100 (by cbv) (by (simp only [sxs, sxb, and_self, and_true, true_and, implies_true, imp_self, bne_eq_false_iff_eq, Nat.zero_add, Nat.le_refl, Int.toNat_natCast, Int.ofNat_lt, Int.natCast_nonneg, decide_eq_true_eq, decide_eq_false_iff_not, bne_iff_ne, ne_eq]; try dsimp only [Kd.T, Kds.T, AK.T, AKs.T])) ?_
      refine AM.imp2 (by cbv) (by cbv) ?_ ?_ (after ((s, x, u), (s2, y, u2)) ⟨hs1, hs2, f1, g1, hxl, hyl, ?_, rfl⟩)
      · (simp only [sxs, sxb, and_self, and_true, true_and, implies_true, imp_self, bne_eq_false_iff_eq, Nat.zero_add, Nat.le_refl, Int.toNat_natCast, Int.ofNat_lt, Int.natCast_nonneg, decide_eq_true_eq, decide_eq_false_iff_not, bne_iff_ne, ne_eq]; try dsimp only [Kd.T, Kds.T, AK.T, AKs.T])
      · (simp only [sxs, sxb, and_self, and_true, true_and, implies_true, imp_self, bne_eq_false_iff_eq, Nat.zero_add, Nat.le_refl, Int.toNat_natCast, Int.ofNat_lt, Int.natCast_nonneg, decide_eq_true_eq, decide_eq_false_iff_not, bne_iff_ne, ne_eq]; try dsimp only [Kd.T, Kds.T, AK.T, AKs.T])
      · intro hne
        have := c hne
        rw [sizeR_lt] at this
        simp only
        omega
  obtain ⟨V, hV⟩ : ∃ V, valN (s, x, u) + valN (s2, y, u2) = V := ⟨_, rfl⟩
  simp only [hV] at hQ ⊢
  clear hV h h2 hs1 hs2 f1 f2 f3 f4 g1 g2 g3 g4 hx hy hxl hyl
  rintro ⟨⟨(p : Int), (a : List Int), up⟩, ⟨(q : Int), (b : List Int), uq⟩⟩ ⟨j1, j2, j3, j4, j5, j6, j7, j8⟩
  simp only at j1 j2 j3 j4 j5 j6 j7 j8
  refine AM.run2 hG 100 (by cbv) ?_ ?_
  · (simp only [sxs, sxb, and_self, and_true, true_and, implies_true, imp_self, bne_eq_false_iff_eq, Nat.zero_add, Nat.le_refl, Int.toNat_natCast, Int.ofNat_lt, Int.natCast_nonneg, decide_eq_true_eq, decide_eq_false_iff_not, bne_iff_ne, ne_eq]; try dsimp only [Kd.T, Kds.T, AK.T, AKs.T])
  refine AM.emptyRow 3 1 55 U64 rfl (by show 3 < 4; omega) rfl ?_
  obtain ⟨n, hn⟩ : ∃ n, max a.length b.length = n := ⟨_, rfl⟩
  refine AM.loopI (fun x : Nat × Int × List Int => (frame 95 [(2, .ptr 0 0), (3, .ptr 1 0), (4, .ptr 2 0), (5, .ptr 3 0), (6, .int .u64 (.t fun _ => x.2.1)), (7, .int .i64 (.t fun _ => nI x.1))], [.box 53 [.int .i64 (.t fun _ => p), .ro U64 fun _ => a], .box 53 [.int .i64 (.t fun _ => q), .ro U64 fun _ => b], .box 53 [.int .i64 (.l 0), .nils], .box 53 [.int .i64 (.t fun _ => p), .sl 4 1 (.l 0) (.t fun _ => x.2.2.length)], .row 55 U64 fun _ => x.2.2]))
    (fun x => x.1 ≤ n + 1 ∧ x.2.2.length = x.1 ∧ drng x.2.2 ∧ (0 ≤ x.2.1 ∧ x.2.1 ≤ 1) ∧ plusInv (p = q) (65536 ^ x.1) (dval x.2.2) x.2.1 (dval (a.take x.1)) (dval (b.take x.1))) (fun x => n + 1 - x.1) (0, 0, []) ⟨by omega, rfl, (by intro d hd; cases hd), by decide, by unfold plusInv; split <;> simp [dval]⟩ ?_ ?_ ?_
  · cbv; (simp only [sxs, sxb, and_self, and_true, true_and, implies_true, imp_self, bne_eq_false_iff_eq, Nat.zero_add, Nat.le_refl, Int.toNat_natCast, Int.ofNat_lt, Int.natCast_nonneg, decide_eq_true_eq, decide_eq_false_iff_not, bne_iff_ne, ne_eq]; try dsimp only [Kd.T, Kds.T, AK.T, AKs.T])
    try rfl
  · cbv; (simp only [sxs, sxb, and_self, and_true, true_and, implies_true, imp_self, bne_eq_false_iff_eq, Nat.zero_add, Nat.le_refl, Int.toNat_natCast, Int.ofNat_lt, Int.natCast_nonneg, decide_eq_true_eq, decide_eq_false_iff_not, bne_iff_ne, ne_eq]; try dsimp only [Kd.T, Kds.T, AK.T, AKs.T])
  rintro ⟨i, c, ds⟩ ⟨k1, k2, k3, k4, k5⟩ ih
  simp only at k1 k2 k3 k4 k5 ih
  refine AM.run2 hG 100 (by cbv) ?_ ?_
  · (simp only [sxs, sxb, and_self, and_true, true_and, implies_true, imp_self, bne_eq_false_iff_eq, Nat.zero_add, Nat.le_refl, Int.toNat_natCast, Int.ofNat_lt, Int.natCast_nonneg, decide_eq_true_eq, decide_eq_false_iff_not, bne_iff_ne, ne_eq]; try dsimp only [Kd.T, Kds.T, AK.T, AKs.T])
  have emax : (if a.length < b.length then (b.length : Int) else (a.length : Int)) = (n : Int) := by split <;> omega
  refine AM.case 47 rfl (fun h => ?_) (fun h => ?_) <;> (simp only [sxs, sxb, and_self, and_true, true_and, implies_true, imp_self, bne_eq_false_iff_eq, Nat.zero_add, Nat.le_refl, Int.toNat_natCast, Int.ofNat_lt, Int.natCast_nonneg, decide_eq_true_eq, decide_eq_false_iff_not, bne_iff_ne, ne_eq] at h; try dsimp only [Kd.T, Kds.T, AK.T, AKs.T] at h)
  · simp only [if_true] at h
    rw [emax, w64 (by omega) (by omega)] at h
    have hX := drng_get j3 i
    have hY := drng_get j4 i
    have es : IntKind.u64.wrap (IntKind.u64.wrap (c + a.getD i 0) + b.getD i 0) = c + a.getD i 0 + b.getD i 0 := by rw [wz (z := c + a.getD i 0) ⟨by omega, by omega⟩, wz ⟨by omega, by omega⟩]
    have ed : IntKind.u64.wrap (IntKind.u64.wrap (IntKind.u64.wrap (a.getD i 0 + 65536) - b.getD i 0) - c) = a.getD i 0 + 65536 - b.getD i 0 - c := by rw [wz (z := a.getD i 0 + 65536) ⟨by omega, by omega⟩, wz (z := a.getD i 0 + 65536 - b.getD i 0) ⟨by omega, by omega⟩, wz ⟨by omega, by omega⟩]
    refine AM.run2 hG 100 (by cbv) ?_ ?_
    · (simp only [sxs, sxb, and_self, and_true, true_and, implies_true, imp_self, bne_eq_false_iff_eq, Nat.zero_add, Nat.le_refl, Int.toNat_natCast, Int.ofNat_lt, Int.natCast_nonneg, decide_eq_true_eq, decide_eq_false_iff_not, bne_iff_ne, ne_eq]; try dsimp only [Kd.T, Kds.T, AK.T, AKs.T])
      try omega
    refine AM.case 62 rfl (fun e => ?_) (fun e => ?_) <;> (simp only [sxs, sxb, and_self, and_true, true_and, implies_true, imp_self, bne_eq_false_iff_eq, Nat.zero_add, Nat.le_refl, Int.toNat_natCast, Int.ofNat_lt, Int.natCast_nonneg, decide_eq_true_eq, decide_eq_false_iff_not, bne_iff_ne, ne_eq] at e; try dsimp only [Kd.T, Kds.T, AK.T, AKs.T] at e)
    · refine AM.run2 hG 100 (by cbv) ?_ ?_
      · (simp only [sxs, sxb, and_self, and_true, true_and, implies_true, imp_self, bne_eq_false_iff_eq, Nat.zero_add, Nat.le_refl, Int.toNat_natCast, Int.ofNat_lt, Int.natCast_nonneg, decide_eq_true_eq, decide_eq_false_iff_not, bne_iff_ne, ne_eq]; try dsimp only [Kd.T, Kds.T, AK.T, AKs.T])
        simp only [maxLen, List.length_take, List.length_cons, List.length_nil]
        omega
      obtain ⟨d2, hd2⟩ : ∃ d2, ds ++ [(c + a.getD i 0 + b.getD i 0) % 65536] = d2 := ⟨_, rfl⟩
      refine AM.ren hB [0, 1, 2, 3, 6] (by cbv) (by cbv) (by cbv) ?_ ?_ (ih (i + 1, (c + a.getD i 0 + b.getD i 0) / 65536, d2) ⟨by simp only; omega, by simp only; rw [← hd2]; simp only [List.length_append, List.length_cons, List.length_nil]; omega, by simp only; rw [← hd2]; exact drng_snoc k3 (by omega), by simp only; omega, ?_⟩ (by simp only; omega))
      · (simp only [sxs, sxb, and_self, and_true, true_and, implies_true, imp_self, bne_eq_false_iff_eq, Nat.zero_add, Nat.le_refl, Int.toNat_natCast, Int.ofNat_lt, Int.natCast_nonneg, decide_eq_true_eq, decide_eq_false_iff_not, bne_iff_ne, ne_eq]; try dsimp only [Kd.T, Kds.T, AK.T, AKs.T])
        rw [es, Int.tdiv_eq_ediv_of_nonneg (by omega), wz ⟨by omega, by omega⟩, w64s (by omega)]
        exact ⟨rfl, rfl⟩
      · (simp only [sxs, sxb, and_self, and_true, true_and, implies_true, imp_self, bne_eq_false_iff_eq, Nat.zero_add, Nat.le_refl, Int.toNat_natCast, Int.ofNat_lt, Int.natCast_nonneg, decide_eq_true_eq, decide_eq_false_iff_not, bne_iff_ne, ne_eq]; try dsimp only [Kd.T, Kds.T, AK.T, AKs.T])
        rw [es, Int.tmod_eq_emod_of_nonneg (by omega), ← hd2, List.length_append]
        exact ⟨rfl, rfl⟩
      · simp only
        unfold plusInv at k5 ⊢
        rw [if_pos e] at k5 ⊢
        rw [← hd2, dval_snoc k2, dval_take_succ, dval_take_succ, Int.pow_succ]
        exact plus_same k5
    · refine AM.run2 hG 100 (by cbv) ?_ ?_
      · (simp only [sxs, sxb, and_self, and_true, true_and, implies_true, imp_self, bne_eq_false_iff_eq, Nat.zero_add, Nat.le_refl, Int.toNat_natCast, Int.ofNat_lt, Int.natCast_nonneg, decide_eq_true_eq, decide_eq_false_iff_not, bne_iff_ne, ne_eq]; try dsimp only [Kd.T, Kds.T, AK.T, AKs.T])
        simp only [maxLen, List.length_take, List.length_cons, List.length_nil]
        omega
      obtain ⟨d2, hd2⟩ : ∃ d2, ds ++ [(a.getD i 0 + 65536 - b.getD i 0 - c) % 65536] = d2 := ⟨_, rfl⟩
      refine AM.ren hB [0, 1, 2, 3, 6] (by cbv) (by cbv) (by cbv) ?_ ?_ (ih (i + 1, 1 - (a.getD i 0 + 65536 - b.getD i 0 - c) / 65536, d2) ⟨by simp only; omega, by simp only; rw [← hd2]; simp only [List.length_append, List.length_cons, List.length_nil]; omega, by simp only; rw [← hd2]; exact drng_snoc k3 (by omega), by simp only; omega, ?_⟩ (by simp only; omega))
      · (simp only [sxs, sxb, and_self, and_true, true_and, implies_true, imp_self, bne_eq_false_iff_eq, Nat.zero_add, Nat.le_refl, Int.toNat_natCast, Int.ofNat_lt, Int.natCast_nonneg, decide_eq_true_eq, decide_eq_false_iff_not, bne_iff_ne, ne_eq]; try dsimp only [Kd.T, Kds.T, AK.T, AKs.T])
        rw [ed, Int.tdiv_eq_ediv_of_nonneg (by omega), wz (z := (a.getD i 0 + 65536 - b.getD i 0 - c) / 65536) ⟨by omega, by omega⟩, wz ⟨by omega, by omega⟩, w64s (by omega)]
        exact ⟨rfl, rfl⟩
      · (simp only [sxs, sxb, and_self, and_true, true_and, implies_true, imp_self, bne_eq_false_iff_eq, Nat.zero_add, Nat.le_refl, Int.toNat_natCast, Int.ofNat_lt, Int.natCast_nonneg, decide_eq_true_eq, decide_eq_false_iff_not, bne_iff_ne, ne_eq]; try dsimp only [Kd.T, Kds.T, AK.T, AKs.T])
        rw [ed, Int.tmod_eq_emod_of_nonneg (by omega), ← hd2, List.length_append]
        exact ⟨rfl, rfl⟩
      · simp only
        unfold plusInv at k5 ⊢
        rw [if_neg e] at k5 ⊢
        rw [← hd2, dval_snoc k2, dval_take_succ, dval_take_succ, Int.pow_succ]
        exact plus_diff k5
  · simp only [if_true] at h
    rw [emax, w64 (by omega) (by omega)] at h
    obtain rfl : i = n + 1 := by omega
    rw [List.take_of_length_le (by omega), List.take_of_length_le (by omega)] at k5
    have hend := plus_end j1 j2 j3 j4 k3 (by omega) (by omega) (by omega) k4 j7 k5
    clear ih
    refine AM.runTo2 hG 93 100 (by cbv) ?_ ?_
    · (simp only [sxs, sxb, and_self, and_true, true_and, implies_true, imp_self, bne_eq_false_iff_eq, Nat.zero_add, Nat.le_refl, Int.toNat_natCast, Int.ofNat_lt, Int.natCast_nonneg, decide_eq_true_eq, decide_eq_false_iff_not, bne_iff_ne, ne_eq]; try dsimp only [Kd.T, Kds.T, AK.T, AKs.T])
    refine AM.frz [4] (by cbv) (by (simp only [sxs, sxb, and_self, and_true, true_and, implies_true, imp_self, bne_eq_false_iff_eq, Nat.zero_add, Nat.le_refl, Int.toNat_natCast, Int.ofNat_lt, Int.natCast_nonneg, decide_eq_true_eq, decide_eq_false_iff_not, bne_iff_ne, ne_eq]; try dsimp only [Kd.T, Kds.T, AK.T, AKs.T])) ?_
    refine AM.run2 hG 100 (by cbv) ?_ ?_
    · (simp only [sxs, sxb, and_self, and_true, true_and, implies_true, imp_self, bne_eq_false_iff_eq, Nat.zero_add, Nat.le_refl, Int.toNat_natCast, Int.ofNat_lt, Int.natCast_nonneg, decide_eq_true_eq, decide_eq_false_iff_not, bne_iff_ne, ne_eq]; try dsimp only [Kd.T, Kds.T, AK.T, AKs.T])
      rw [List.take_length]
      exact ⟨by omega, k3, by omega⟩
    refine AM.ret2 hG (by cbv) (by (simp only [sxs, sxb, and_self, and_true, true_and, implies_true, imp_self, bne_eq_false_iff_eq, Nat.zero_add, Nat.le_refl, Int.toNat_natCast, Int.ofNat_lt, Int.natCast_nonneg, decide_eq_true_eq, decide_eq_false_iff_not, bne_iff_ne, ne_eq]; try dsimp only [Kd.T, Kds.T, AK.T, AKs.T])) (hQ _ _ (FinRo.of (by cbv) (by cbv) ?_ ?_))
    · (simp only [sxs, sxb, and_self, and_true, true_and, implies_true, imp_self, bne_eq_false_iff_eq, Nat.zero_add, Nat.le_refl, Int.toNat_natCast, Int.ofNat_lt, Int.natCast_nonneg, decide_eq_true_eq, decide_eq_false_iff_not, bne_iff_ne, ne_eq]; try dsimp only [Kd.T, Kds.T, AK.T, AKs.T])
    try (simp only [sxs, sxb, and_self, and_true, true_and, implies_true, imp_self, bne_eq_false_iff_eq, Nat.zero_add, Nat.le_refl, Int.toNat_natCast, Int.ofNat_lt, Int.natCast_nonneg, decide_eq_true_eq, decide_eq_false_iff_not, bne_iff_ne, ne_eq]; try dsimp only [Kd.T, Kds.T, AK.T, AKs.T])
    have ev : valN (p, ds, PUnit.unit) = V := by
      show p * dval ds = V
      rw [hend]
      exact j8
    rw [List.take_length, ev]
    exact ⟨rfl, rfl⟩
theorem canon_len {n : Int} (h : -18446744073709551616 < n ∧ n < 18446744073709551616) : (canonN n).2.1.length ≤ 4 := by
  refine digs_len 4 n.natAbs ?_
  have : (65536 : Nat) ^ 4 = 18446744073709551616 := rfl
  omega
theorem dval_drop (x : List Int) (k : Nat) : dval (x.drop k) = x.getD k 0 + 65536 * dval (x.drop (k + 1)) := by
  rw [dval_hd, List.tail_drop]
  congr 1
  simp [List.getD_eq_getElem?_getD]
theorem drng_drop {x : List Int} (h : drng x) (k : Nat) : drng (x.drop k) := fun d hd => h d (List.mem_of_mem_drop hd)
theorem dval_drop_le {x : List Int} (h : drng x) : ∀ k : Nat, dval (x.drop k) ≤ dval x
  | 0 => by rw [List.drop_zero]; exact Int.le_refl _
  | k + 1 => by
    have h1 := dval_drop_le h k
    rw [dval_drop] at h1
    have h2 := drng_get h k
    have h3 := dval_nonneg (drng_drop h (k + 1))
    omega
def S46 : List AV → Option FOut := sigSpec [WithinK, NumK] [I64, I64] (fun x : (Int × Int × Unit) × Num × Unit => ((outS x.1.1 x.1.2.1 (valN x.2.1)).1, (outS x.1.1 x.1.2.1 (valN x.2.1)).2, ())) (fun x : (Int × Int × Unit) × Num × Unit => inI x.1.1 ∧ inI x.1.2.1 ∧ okN x.2.1 ∧ x.2.1.2.1.length ≤ 1000)
set_option maxHeartbeats 8000000 in
theorem fn46 : FnOk Try.prog 46 S46 := by
  refine fn_of (rs := [.tmp 4, .tmp 5]) (env [(40, S40), (58, S58)] ⟨fn40, fn58, trivial⟩) Try.func46 (by kernel_rfl) rfl rfl Try.ntmps46 ?_
  rintro ⟨⟨(lo : Int), (hi : Int), u⟩, ⟨(s : Int), (x : List Int), u1⟩, u2⟩ ⟨hlo, hhi, hx, hxl⟩ G hG hQ
  simp only at hlo hhi hx hxl
  obtain ⟨f1, f2, f3, f4⟩ := okN_facts hx
  simp only at f1 f3 f4
  obtain ⟨v, hv⟩ : ∃ v, valN (s, x, u1) = v := ⟨_, rfl⟩
  rw [hv] at f3 f4
  have hlo' := hlo
  have hhi' := hhi
  unfold inI at hlo' hhi'
  have c1 := canon_len (n := lo) ⟨by omega, by omega⟩
  have c2 := canon_len (n := hi) ⟨by omega, by omega⟩
  have e1 : valN ((canonN lo).1, (canonN lo).2.1, PUnit.unit) = lo := valN_canon lo
  have e2 : valN ((canonN hi).1, (canonN hi).2.1, PUnit.unit) = hi := valN_canon hi
  have e3 : valN (s, x, PUnit.unit) = v := hv
  refine AM.run2 hG 100 (by cbv) ?_ ?_
  · (simp only [sxs, sxb, and_self, and_true, true_and, implies_true, imp_self, bne_eq_false_iff_eq, Nat.zero_add, Nat.le_refl, Int.toNat_natCast, Int.ofNat_lt, Int.natCast_nonneg, decide_eq_true_eq, decide_eq_false_iff_not, bne_iff_ne, ne_eq]; try dsimp only [Kd.T, Kds.T, AK.T, AKs.T])
    exact ⟨hlo, ⟨hx, okN_canon lo, by omega, by omega⟩, fun _ => hhi, fun _ => ⟨okN_canon hi, hx, by omega, by omega⟩⟩
  refine AM.case 19 rfl (fun h => ?_) (fun h => ?_) <;> (simp only [sxs, sxb, and_self, and_true, true_and, implies_true, imp_self, bne_eq_false_iff_eq, Nat.zero_add, Nat.le_refl, Int.toNat_natCast, Int.ofNat_lt, Int.natCast_nonneg, decide_eq_true_eq, decide_eq_false_iff_not, bne_iff_ne, ne_eq] at h; try dsimp only [Kd.T, Kds.T, AK.T, AKs.T] at h)
  · refine AM.run2 hG 100 (by cbv) ?_ ?_
    · (simp only [sxs, sxb, and_self, and_true, true_and, implies_true, imp_self, bne_eq_false_iff_eq, Nat.zero_add, Nat.le_refl, Int.toNat_natCast, Int.ofNat_lt, Int.natCast_nonneg, decide_eq_true_eq, decide_eq_false_iff_not, bne_iff_ne, ne_eq]; try dsimp only [Kd.T, Kds.T, AK.T, AKs.T])
    refine AM.ret2 hG (by cbv) (by (simp only [sxs, sxb, and_self, and_true, true_and, implies_true, imp_self, bne_eq_false_iff_eq, Nat.zero_add, Nat.le_refl, Int.toNat_natCast, Int.ofNat_lt, Int.natCast_nonneg, decide_eq_true_eq, decide_eq_false_iff_not, bne_iff_ne, ne_eq]; try dsimp only [Kd.T, Kds.T, AK.T, AKs.T])) (hQ _ _ (FinRo.of (by cbv) (by cbv) ?_ ?_))
    · (simp only [sxs, sxb, and_self, and_true, true_and, implies_true, imp_self, bne_eq_false_iff_eq, Nat.zero_add, Nat.le_refl, Int.toNat_natCast, Int.ofNat_lt, Int.natCast_nonneg, decide_eq_true_eq, decide_eq_false_iff_not, bne_iff_ne, ne_eq]; try dsimp only [Kd.T, Kds.T, AK.T, AKs.T])
    try (simp only [sxs, sxb, and_self, and_true, true_and, implies_true, imp_self, bne_eq_false_iff_eq, Nat.zero_add, Nat.le_refl, Int.toNat_natCast, Int.ofNat_lt, Int.natCast_nonneg, decide_eq_true_eq, decide_eq_false_iff_not, bne_iff_ne, ne_eq]; try dsimp only [Kd.T, Kds.T, AK.T, AKs.T])
    rw [e1, e2, e3] at h
    rw [hv, outS, if_pos (by omega)]
    exact ⟨rfl, rfl⟩
  have hin : lo ≤ v ∧ v ≤ hi := by
    rw [e1, e2, e3] at h
    omega
  have hout : outS lo hi v = (v, 0) := by rw [outS, if_neg (by omega)]
  refine AM.run2 hG 100 (by cbv) ?_ ?_
  · (simp only [sxs, sxb, and_self, and_true, true_and, implies_true, imp_self, bne_eq_false_iff_eq, Nat.zero_add, Nat.le_refl, Int.toNat_natCast, Int.ofNat_lt, Int.natCast_nonneg, decide_eq_true_eq, decide_eq_false_iff_not, bne_iff_ne, ne_eq]; try dsimp only [Kd.T, Kds.T, AK.T, AKs.T])
  refine AM.loopI (fun k : Nat => (frame 43 [(2, .ptr 0 0), (3, .ptr 1 0), (6, .int .u64 (.t fun _ => dval (x.drop k))), (7, .int .i64 (.t fun _ => (k : Int) - 1))], [.box 23 [.int .i64 (.t fun _ => lo), .int .i64 (.t fun _ => hi)], .box 53 [.int .i64 (.t fun _ => s), .ro U64 fun _ => x]]))
    (fun k => k ≤ x.length) (fun k => k) x.length (Nat.le_refl _) ?_ ?_ ?_
  · cbv; (simp only [sxs, sxb, and_self, and_true, true_and, implies_true, imp_self, bne_eq_false_iff_eq, Nat.zero_add, Nat.le_refl, Int.toNat_natCast, Int.ofNat_lt, Int.natCast_nonneg, decide_eq_true_eq, decide_eq_false_iff_not, bne_iff_ne, ne_eq]; try dsimp only [Kd.T, Kds.T, AK.T, AKs.T])
    rw [List.drop_length, w64 (by omega) (by omega)]
    exact ⟨rfl, rfl⟩
  · cbv; (simp only [sxs, sxb, and_self, and_true, true_and, implies_true, imp_self, bne_eq_false_iff_eq, Nat.zero_add, Nat.le_refl, Int.toNat_natCast, Int.ofNat_lt, Int.natCast_nonneg, decide_eq_true_eq, decide_eq_false_iff_not, bne_iff_ne, ne_eq]; try dsimp only [Kd.T, Kds.T, AK.T, AKs.T])
  rintro k hk ih
  refine AM.run2 hG 100 (by cbv) ?_ ?_
  · (simp only [sxs, sxb, and_self, and_true, true_and, implies_true, imp_self, bne_eq_false_iff_eq, Nat.zero_add, Nat.le_refl, Int.toNat_natCast, Int.ofNat_lt, Int.natCast_nonneg, decide_eq_true_eq, decide_eq_false_iff_not, bne_iff_ne, ne_eq]; try dsimp only [Kd.T, Kds.T, AK.T, AKs.T])
  refine AM.case 25 rfl (fun h2 => ?_) (fun h2 => ?_) <;> (simp only [sxs, sxb, and_self, and_true, true_and, implies_true, imp_self, bne_eq_false_iff_eq, Nat.zero_add, Nat.le_refl, Int.toNat_natCast, Int.ofNat_lt, Int.natCast_nonneg, decide_eq_true_eq, decide_eq_false_iff_not, bne_iff_ne, ne_eq] at h2; try dsimp only [Kd.T, Kds.T, AK.T, AKs.T] at h2)
  · refine AM.run2 hG 100 (by cbv) ?_ ?_
    · (simp only [sxs, sxb, and_self, and_true, true_and, implies_true, imp_self, bne_eq_false_iff_eq, Nat.zero_add, Nat.le_refl, Int.toNat_natCast, Int.ofNat_lt, Int.natCast_nonneg, decide_eq_true_eq, decide_eq_false_iff_not, bne_iff_ne, ne_eq]; try dsimp only [Kd.T, Kds.T, AK.T, AKs.T])
      omega
    have hd := dval_drop x (k - 1)
    rw [show k - 1 + 1 = k by omega] at hd
    have hb := dval_drop_le f1 (k - 1)
    have h3 := dval_nonneg (drng_drop f1 k)
    have h4 := drng_get f1 (k - 1)
    refine AM.imp2 (by cbv) (by cbv) ?_ ?_ (ih (k - 1) (by omega) (by omega))
    · (simp only [sxs, sxb, and_self, and_true, true_and, implies_true, imp_self, bne_eq_false_iff_eq, Nat.zero_add, Nat.le_refl, Int.toNat_natCast, Int.ofNat_lt, Int.natCast_nonneg, decide_eq_true_eq, decide_eq_false_iff_not, bne_iff_ne, ne_eq]; try dsimp only [Kd.T, Kds.T, AK.T, AKs.T])
      rw [show ((k : Int) - 1).toNat = k - 1 by omega, wz (z := 65536 * dval (x.drop k)) ⟨by omega, by omega⟩, wz ⟨by omega, by omega⟩, w64 (by omega) (by omega)]
      exact ⟨by omega, by omega⟩
    · (simp only [sxs, sxb, and_self, and_true, true_and, implies_true, imp_self, bne_eq_false_iff_eq, Nat.zero_add, Nat.le_refl, Int.toNat_natCast, Int.ofNat_lt, Int.natCast_nonneg, decide_eq_true_eq, decide_eq_false_iff_not, bne_iff_ne, ne_eq]; try dsimp only [Kd.T, Kds.T, AK.T, AKs.T])
  obtain rfl : k = 0 := by omega
  rw [List.drop_zero, f3]
  refine AM.run2 hG 100 (by cbv) ?_ ?_
  · (simp only [sxs, sxb, and_self, and_true, true_and, implies_true, imp_self, bne_eq_false_iff_eq, Nat.zero_add, Nat.le_refl, Int.toNat_natCast, Int.ofNat_lt, Int.natCast_nonneg, decide_eq_true_eq, decide_eq_false_iff_not, bne_iff_ne, ne_eq]; try dsimp only [Kd.T, Kds.T, AK.T, AKs.T])
  refine AM.case 38 rfl (fun h2 => ?_) (fun h2 => ?_) <;> (simp only [sxs, sxb, and_self, and_true, true_and, implies_true, imp_self, bne_eq_false_iff_eq, Nat.zero_add, Nat.le_refl, Int.toNat_natCast, Int.ofNat_lt, Int.natCast_nonneg, decide_eq_true_eq, decide_eq_false_iff_not, bne_iff_ne, ne_eq] at h2; try dsimp only [Kd.T, Kds.T, AK.T, AKs.T] at h2)
  · have hn := sgn_neg (f4 ▸ h2)
    refine AM.run2 hG 100 (by cbv) ?_ ?_
    · (simp only [sxs, sxb, and_self, and_true, true_and, implies_true, imp_self, bne_eq_false_iff_eq, Nat.zero_add, Nat.le_refl, Int.toNat_natCast, Int.ofNat_lt, Int.natCast_nonneg, decide_eq_true_eq, decide_eq_false_iff_not, bne_iff_ne, ne_eq]; try dsimp only [Kd.T, Kds.T, AK.T, AKs.T])
    refine AM.ret2 hG (by cbv) (by (simp only [sxs, sxb, and_self, and_true, true_and, implies_true, imp_self, bne_eq_false_iff_eq, Nat.zero_add, Nat.le_refl, Int.toNat_natCast, Int.ofNat_lt, Int.natCast_nonneg, decide_eq_true_eq, decide_eq_false_iff_not, bne_iff_ne, ne_eq]; try dsimp only [Kd.T, Kds.T, AK.T, AKs.T])) (hQ _ _ (FinRo.of (by cbv) (by cbv) ?_ ?_))
    · (simp only [sxs, sxb, and_self, and_true, true_and, implies_true, imp_self, bne_eq_false_iff_eq, Nat.zero_add, Nat.le_refl, Int.toNat_natCast, Int.ofNat_lt, Int.natCast_nonneg, decide_eq_true_eq, decide_eq_false_iff_not, bne_iff_ne, ne_eq]; try dsimp only [Kd.T, Kds.T, AK.T, AKs.T])
    try (simp only [sxs, sxb, and_self, and_true, true_and, implies_true, imp_self, bne_eq_false_iff_eq, Nat.zero_add, Nat.le_refl, Int.toNat_natCast, Int.ofNat_lt, Int.natCast_nonneg, decide_eq_true_eq, decide_eq_false_iff_not, bne_iff_ne, ne_eq]; try dsimp only [Kd.T, Kds.T, AK.T, AKs.T])
    rw [hv, hout]
    rw [uw, iw]
    refine ⟨?_, rfl⟩
    simp only
    split <;> omega
  · have hn := sgn_nn (f4 ▸ h2)
    refine AM.run2 hG 100 (by cbv) ?_ ?_
    · (simp only [sxs, sxb, and_self, and_true, true_and, implies_true, imp_self, bne_eq_false_iff_eq, Nat.zero_add, Nat.le_refl, Int.toNat_natCast, Int.ofNat_lt, Int.natCast_nonneg, decide_eq_true_eq, decide_eq_false_iff_not, bne_iff_ne, ne_eq]; try dsimp only [Kd.T, Kds.T, AK.T, AKs.T])
    refine AM.ret2 hG (by cbv) (by (simp only [sxs, sxb, and_self, and_true, true_and, implies_true, imp_self, bne_eq_false_iff_eq, Nat.zero_add, Nat.le_refl, Int.toNat_natCast, Int.ofNat_lt, Int.natCast_nonneg, decide_eq_true_eq, decide_eq_false_iff_not, bne_iff_ne, ne_eq]; try dsimp only [Kd.T, Kds.T, AK.T, AKs.T])) (hQ _ _ (FinRo.of (by cbv) (by cbv) ?_ ?_))
    · (simp only [sxs, sxb, and_self, and_true, true_and, implies_true, imp_self, bne_eq_false_iff_eq, Nat.zero_add, Nat.le_refl, Int.toNat_natCast, Int.ofNat_lt, Int.natCast_nonneg, decide_eq_true_eq, decide_eq_false_iff_not, bne_iff_ne, ne_eq]; try dsimp only [Kd.T, Kds.T, AK.T, AKs.T])
    try (simp only [sxs, sxb, and_self, and_true, true_and, implies_true, imp_self, bne_eq_false_iff_eq, Nat.zero_add, Nat.le_refl, Int.toNat_natCast, Int.ofNat_lt, Int.natCast_nonneg, decide_eq_true_eq, decide_eq_false_iff_not, bne_iff_ne, ne_eq]; try dsimp only [Kd.T, Kds.T, AK.T, AKs.T])
    rw [hv, hout]
    rw [iw]
    refine ⟨?_, rfl⟩
    simp only
    split <;> omega
def S18 : List AV → Option FOut := sigSpec [WithinK] [I64] (fun x : (Int × Int × Unit) × Unit => (if x.1.2.1 < x.1.1 then 2 else 0, ())) (fun _ => True)
theorem fn18 : FnOk Try.prog 18 S18 := by
  refine fn_of (rs := [.tmp 2]) (env [] trivial) Try.func18 (by kernel_rfl) rfl rfl Try.ntmps18 ?_
  rintro ⟨⟨(a : Int), (b : Int), u⟩, u3⟩ _ G hG hQ
  refine AM.run2 hG 100 (by cbv) (by (simp only [sxs, sxb, and_self, and_true, true_and, implies_true, imp_self, bne_eq_false_iff_eq, Nat.zero_add, Nat.le_refl, Int.toNat_natCast, Int.ofNat_lt, Int.natCast_nonneg, decide_eq_true_eq, decide_eq_false_iff_not, bne_iff_ne, ne_eq]; try dsimp only [Kd.T, Kds.T, AK.T, AKs.T])) ?_
  refine AM.case 7 rfl (fun h => ?_) (fun h => ?_) <;> (simp only [sxs, sxb, and_self, and_true, true_and, implies_true, imp_self, bne_eq_false_iff_eq, Nat.zero_add, Nat.le_refl, Int.toNat_natCast, Int.ofNat_lt, Int.natCast_nonneg, decide_eq_true_eq, decide_eq_false_iff_not, bne_iff_ne, ne_eq] at h; try dsimp only [Kd.T, Kds.T, AK.T, AKs.T] at h)
  · refine AM.run2 hG 100 (by cbv) (by (simp only [sxs, sxb, and_self, and_true, true_and, implies_true, imp_self, bne_eq_false_iff_eq, Nat.zero_add, Nat.le_refl, Int.toNat_natCast, Int.ofNat_lt, Int.natCast_nonneg, decide_eq_true_eq, decide_eq_false_iff_not, bne_iff_ne, ne_eq]; try dsimp only [Kd.T, Kds.T, AK.T, AKs.T])) ?_
    refine AM.ret2 hG (by cbv) (by (simp only [sxs, sxb, and_self, and_true, true_and, implies_true, imp_self, bne_eq_false_iff_eq, Nat.zero_add, Nat.le_refl, Int.toNat_natCast, Int.ofNat_lt, Int.natCast_nonneg, decide_eq_true_eq, decide_eq_false_iff_not, bne_iff_ne, ne_eq]; try dsimp only [Kd.T, Kds.T, AK.T, AKs.T])) (hQ _ _ (FinRo.of (by cbv) (by cbv) ?_ ?_))
    · (simp only [sxs, sxb, and_self, and_true, true_and, implies_true, imp_self, bne_eq_false_iff_eq, Nat.zero_add, Nat.le_refl, Int.toNat_natCast, Int.ofNat_lt, Int.natCast_nonneg, decide_eq_true_eq, decide_eq_false_iff_not, bne_iff_ne, ne_eq]; try dsimp only [Kd.T, Kds.T, AK.T, AKs.T])
    try (simp only [sxs, sxb, and_self, and_true, true_and, implies_true, imp_self, bne_eq_false_iff_eq, Nat.zero_add, Nat.le_refl, Int.toNat_natCast, Int.ofNat_lt, Int.natCast_nonneg, decide_eq_true_eq, decide_eq_false_iff_not, bne_iff_ne, ne_eq]; try dsimp only [Kd.T, Kds.T, AK.T, AKs.T])
    rw [if_pos h]
  · refine AM.run2 hG 100 (by cbv) (by (simp only [sxs, sxb, and_self, and_true, true_and, implies_true, imp_self, bne_eq_false_iff_eq, Nat.zero_add, Nat.le_refl, Int.toNat_natCast, Int.ofNat_lt, Int.natCast_nonneg, decide_eq_true_eq, decide_eq_false_iff_not, bne_iff_ne, ne_eq]; try dsimp only [Kd.T, Kds.T, AK.T, AKs.T])) ?_
    refine AM.ret2 hG (by cbv) (by (simp only [sxs, sxb, and_self, and_true, true_and, implies_true, imp_self, bne_eq_false_iff_eq, Nat.zero_add, Nat.le_refl, Int.toNat_natCast, Int.ofNat_lt, Int.natCast_nonneg, decide_eq_true_eq, decide_eq_false_iff_not, bne_iff_ne, ne_eq]; try dsimp only [Kd.T, Kds.T, AK.T, AKs.T])) (hQ _ _ (FinRo.of (by cbv) (by cbv) ?_ ?_))
    · (simp only [sxs, sxb, and_self, and_true, true_and, implies_true, imp_self, bne_eq_false_iff_eq, Nat.zero_add, Nat.le_refl, Int.toNat_natCast, Int.ofNat_lt, Int.natCast_nonneg, decide_eq_true_eq, decide_eq_false_iff_not, bne_iff_ne, ne_eq]; try dsimp only [Kd.T, Kds.T, AK.T, AKs.T])
    try (simp only [sxs, sxb, and_self, and_true, true_and, implies_true, imp_self, bne_eq_false_iff_eq, Nat.zero_add, Nat.le_refl, Int.toNat_natCast, Int.ofNat_lt, Int.natCast_nonneg, decide_eq_true_eq, decide_eq_false_iff_not, bne_iff_ne, ne_eq]; try dsimp only [Kd.T, Kds.T, AK.T, AKs.T])
    rw [if_neg (by omega)]
def S24 : List AV → Option FOut := sigSpec [WithinK, I64] [I64, I64] (fun x : (Int × Int × Unit) × Int × Unit => let r := clampS x.1.1 x.1.2.1 x.2.1; (r.1, r.2, ())) (fun _ => True)
theorem fn24 : FnOk Try.prog 24 S24 := by
  refine fn_of (rs := [.tmp 4, .tmp 5]) (env [(18, S18)] ⟨fn18, trivial⟩) Try.func24 (by kernel_rfl) rfl rfl Try.ntmps24 ?_
  rintro ⟨⟨(lo : Int), (hi : Int), u⟩, (n : Int), u3⟩ _ G hG hQ
  refine AM.run2 hG 100 (by cbv) ?_ ?_
  · (simp only [sxs, sxb, and_self, and_true, true_and, implies_true, imp_self, bne_eq_false_iff_eq, Nat.zero_add, Nat.le_refl, Int.toNat_natCast, Int.ofNat_lt, Int.natCast_nonneg, decide_eq_true_eq, decide_eq_false_iff_not, bne_iff_ne, ne_eq]; try dsimp only [Kd.T, Kds.T, AK.T, AKs.T])
  refine AM.case 8 rfl (fun e => ?_) (fun e => ?_) <;> (simp only [sxs, sxb, and_self, and_true, true_and, implies_true, imp_self, bne_eq_false_iff_eq, Nat.zero_add, Nat.le_refl, Int.toNat_natCast, Int.ofNat_lt, Int.natCast_nonneg, decide_eq_true_eq, decide_eq_false_iff_not, bne_iff_ne, ne_eq] at e; try dsimp only [Kd.T, Kds.T, AK.T, AKs.T] at e)
  · have e : hi < lo := by split at e <;> simp_all
    refine AM.run2 hG 100 (by cbv) ?_ ?_
    · (simp only [sxs, sxb, and_self, and_true, true_and, implies_true, imp_self, bne_eq_false_iff_eq, Nat.zero_add, Nat.le_refl, Int.toNat_natCast, Int.ofNat_lt, Int.natCast_nonneg, decide_eq_true_eq, decide_eq_false_iff_not, bne_iff_ne, ne_eq]; try dsimp only [Kd.T, Kds.T, AK.T, AKs.T])
    refine AM.ret2 hG (by cbv) (by (simp only [sxs, sxb, and_self, and_true, true_and, implies_true, imp_self, bne_eq_false_iff_eq, Nat.zero_add, Nat.le_refl, Int.toNat_natCast, Int.ofNat_lt, Int.natCast_nonneg, decide_eq_true_eq, decide_eq_false_iff_not, bne_iff_ne, ne_eq]; try dsimp only [Kd.T, Kds.T, AK.T, AKs.T])) (hQ _ _ (FinRo.of (by cbv) (by cbv) ?_ ?_))
    · (simp only [sxs, sxb, and_self, and_true, true_and, implies_true, imp_self, bne_eq_false_iff_eq, Nat.zero_add, Nat.le_refl, Int.toNat_natCast, Int.ofNat_lt, Int.natCast_nonneg, decide_eq_true_eq, decide_eq_false_iff_not, bne_iff_ne, ne_eq]; try dsimp only [Kd.T, Kds.T, AK.T, AKs.T])
    try (simp only [sxs, sxb, and_self, and_true, true_and, implies_true, imp_self, bne_eq_false_iff_eq, Nat.zero_add, Nat.le_refl, Int.toNat_natCast, Int.ofNat_lt, Int.natCast_nonneg, decide_eq_true_eq, decide_eq_false_iff_not, bne_iff_ne, ne_eq]; try dsimp only [Kd.T, Kds.T, AK.T, AKs.T])
    rw [clampS, if_pos e]
    exact ⟨rfl, rfl⟩
  · have e : ¬ hi < lo := by split at e <;> simp_all
    refine AM.run2 hG 100 (by cbv) ?_ ?_
    · (simp only [sxs, sxb, and_self, and_true, true_and, implies_true, imp_self, bne_eq_false_iff_eq, Nat.zero_add, Nat.le_refl, Int.toNat_natCast, Int.ofNat_lt, Int.natCast_nonneg, decide_eq_true_eq, decide_eq_false_iff_not, bne_iff_ne, ne_eq]; try dsimp only [Kd.T, Kds.T, AK.T, AKs.T])
    refine AM.ret2 hG (by cbv) (by (simp only [sxs, sxb, and_self, and_true, true_and, implies_true, imp_self, bne_eq_false_iff_eq, Nat.zero_add, Nat.le_refl, Int.toNat_natCast, Int.ofNat_lt, Int.natCast_nonneg, decide_eq_true_eq, decide_eq_false_iff_not, bne_iff_ne, ne_eq]; try dsimp only [Kd.T, Kds.T, AK.T, AKs.T])) (hQ _ _ (FinRo.of (by cbv) (by cbv) ?_ ?_))
    · (simp only [sxs, sxb, and_self, and_true, true_and, implies_true, imp_self, bne_eq_false_iff_eq, Nat.zero_add, Nat.le_refl, Int.toNat_natCast, Int.ofNat_lt, Int.natCast_nonneg, decide_eq_true_eq, decide_eq_false_iff_not, bne_iff_ne, ne_eq]; try dsimp only [Kd.T, Kds.T, AK.T, AKs.T])
    try (simp only [sxs, sxb, and_self, and_true, true_and, implies_true, imp_self, bne_eq_false_iff_eq, Nat.zero_add, Nat.le_refl, Int.toNat_natCast, Int.ofNat_lt, Int.natCast_nonneg, decide_eq_true_eq, decide_eq_false_iff_not, bne_iff_ne, ne_eq]; try dsimp only [Kd.T, Kds.T, AK.T, AKs.T])
    rw [clampS, if_neg e]
    simp only [if_true, Bool.false_eq_true, if_false]
    refine ⟨?_, by trivial⟩
    split <;> split <;> omega
theorem sumL_bound : ∀ {l : List Int}, (∀ n ∈ l, inI n) → -(9223372036854775808 * l.length) ≤ sumL l ∧ sumL l ≤ 9223372036854775808 * l.length
  | [], _ => by simp [sumL]
  | d :: l, h => by
    have h1 := h d (by simp)
    have h2 := sumL_bound (l := l) fun x hx => h x (by simp [hx])
    unfold inI at h1
    rw [sumL, List.length_cons]
    omega
theorem canon_len5 {n : Int} (h : -9223372036854775808000 ≤ n ∧ n ≤ 9223372036854775808000) : (canonN n).2.1.length ≤ 5 := by
  refine digs_len 5 n.natAbs ?_
  have : (65536 : Nat) ^ 5 = 1208925819614629174706176 := rfl
  omega
def S27 : List AV → Option FOut := sigSpec [WithinK, .slice I64] [I64, I64] (fun x : (Int × Int × Unit) × List Int × Unit => ((sumListR x.1.1 x.1.2.1 x.2.1).1, (sumListR x.1.1 x.1.2.1 x.2.1).2, ())) (fun x : (Int × Int × Unit) × List Int × Unit => inI x.1.1 ∧ inI x.1.2.1 ∧ ∀ n ∈ x.2.1, inI n)
set_option maxHeartbeats 8000000 in
theorem fn27 : FnOk Try.prog 27 S27 := by
  refine fn_ofB (rs := [.tmp 4, .tmp 5]) (env [(18, S18), (40, S40), (47, S47), (46, S46)] ⟨fn18, fn40, fn47, fn46, trivial⟩) Try.func27 (by kernel_rfl) rfl rfl Try.ntmps27 ?_
  rintro ⟨⟨(lo : Int), (hi : Int), u⟩, (l : List Int), u2⟩ ⟨hlo, hhi, hin⟩ G hG hB hQ
  have hB := GB.of hB
  simp only at hlo hhi hin
  refine AM.run2 hG 100 (by cbv) ?_ ?_
  · (simp only [sxs, sxb, and_self, and_true, true_and, implies_true, imp_self, bne_eq_false_iff_eq, Nat.zero_add, Nat.le_refl, Int.toNat_natCast, Int.ofNat_lt, Int.natCast_nonneg, decide_eq_true_eq, decide_eq_false_iff_not, bne_iff_ne, ne_eq]; try dsimp only [Kd.T, Kds.T, AK.T, AKs.T])
  refine AM.case 10 rfl (fun e => ?_) (fun e => ?_) <;> (simp only [sxs, sxb, and_self, and_true, true_and, implies_true, imp_self, bne_eq_false_iff_eq, Nat.zero_add, Nat.le_refl, Int.toNat_natCast, Int.ofNat_lt, Int.natCast_nonneg, decide_eq_true_eq, decide_eq_false_iff_not, bne_iff_ne, ne_eq] at e; try dsimp only [Kd.T, Kds.T, AK.T, AKs.T] at e)
  · have e : hi < lo := by split at e <;> simp_all
    refine AM.run2 hG 100 (by cbv) ?_ ?_
    · (simp only [sxs, sxb, and_self, and_true, true_and, implies_true, imp_self, bne_eq_false_iff_eq, Nat.zero_add, Nat.le_refl, Int.toNat_natCast, Int.ofNat_lt, Int.natCast_nonneg, decide_eq_true_eq, decide_eq_false_iff_not, bne_iff_ne, ne_eq]; try dsimp only [Kd.T, Kds.T, AK.T, AKs.T])
    refine AM.ret2 hG (by cbv) (by (simp only [sxs, sxb, and_self, and_true, true_and, implies_true, imp_self, bne_eq_false_iff_eq, Nat.zero_add, Nat.le_refl, Int.toNat_natCast, Int.ofNat_lt, Int.natCast_nonneg, decide_eq_true_eq, decide_eq_false_iff_not, bne_iff_ne, ne_eq]; try dsimp only [Kd.T, Kds.T, AK.T, AKs.T])) (hQ _ _ (FinRo.of (by cbv) (by cbv) ?_ ?_))
    · (simp only [sxs, sxb, and_self, and_true, true_and, implies_true, imp_self, bne_eq_false_iff_eq, Nat.zero_add, Nat.le_refl, Int.toNat_natCast, Int.ofNat_lt, Int.natCast_nonneg, decide_eq_true_eq, decide_eq_false_iff_not, bne_iff_ne, ne_eq]; try dsimp only [Kd.T, Kds.T, AK.T, AKs.T])
    try (simp only [sxs, sxb, and_self, and_true, true_and, implies_true, imp_self, bne_eq_false_iff_eq, Nat.zero_add, Nat.le_refl, Int.toNat_natCast, Int.ofNat_lt, Int.natCast_nonneg, decide_eq_true_eq, decide_eq_false_iff_not, bne_iff_ne, ne_eq]; try dsimp only [Kd.T, Kds.T, AK.T, AKs.T])
    rw [sumListR, if_pos e]
    exact ⟨rfl, rfl⟩
  have e : ¬ hi < lo := by split at e <;> simp_all
  refine AM.run2 hG 100 (by cbv) ?_ ?_
  · (simp only [sxs, sxb, and_self, and_true, true_and, implies_true, imp_self, bne_eq_false_iff_eq, Nat.zero_add, Nat.le_refl, Int.toNat_natCast, Int.ofNat_lt, Int.natCast_nonneg, decide_eq_true_eq, decide_eq_false_iff_not, bne_iff_ne, ne_eq]; try dsimp only [Kd.T, Kds.T, AK.T, AKs.T])
  refine AM.case 13 rfl (fun e2 => ?_) (fun e2 => ?_) <;> (simp only [sxs, sxb, and_self, and_true, true_and, implies_true, imp_self, bne_eq_false_iff_eq, Nat.zero_add, Nat.le_refl, Int.toNat_natCast, Int.ofNat_lt, Int.natCast_nonneg, decide_eq_true_eq, decide_eq_false_iff_not, bne_iff_ne, ne_eq] at e2; try dsimp only [Kd.T, Kds.T, AK.T, AKs.T] at e2)
  · refine AM.run2 hG 100 (by cbv) ?_ ?_
    · (simp only [sxs, sxb, and_self, and_true, true_and, implies_true, imp_self, bne_eq_false_iff_eq, Nat.zero_add, Nat.le_refl, Int.toNat_natCast, Int.ofNat_lt, Int.natCast_nonneg, decide_eq_true_eq, decide_eq_false_iff_not, bne_iff_ne, ne_eq]; try dsimp only [Kd.T, Kds.T, AK.T, AKs.T])
    refine AM.ret2 hG (by cbv) (by (simp only [sxs, sxb, and_self, and_true, true_and, implies_true, imp_self, bne_eq_false_iff_eq, Nat.zero_add, Nat.le_refl, Int.toNat_natCast, Int.ofNat_lt, Int.natCast_nonneg, decide_eq_true_eq, decide_eq_false_iff_not, bne_iff_ne, ne_eq]; try dsimp only [Kd.T, Kds.T, AK.T, AKs.T])) (hQ _ _ (FinRo.of (by cbv) (by cbv) ?_ ?_))
    · (simp only [sxs, sxb, and_self, and_true, true_and, implies_true, imp_self, bne_eq_false_iff_eq, Nat.zero_add, Nat.le_refl, Int.toNat_natCast, Int.ofNat_lt, Int.natCast_nonneg, decide_eq_true_eq, decide_eq_false_iff_not, bne_iff_ne, ne_eq]; try dsimp only [Kd.T, Kds.T, AK.T, AKs.T])
    try (simp only [sxs, sxb, and_self, and_true, true_and, implies_true, imp_self, bne_eq_false_iff_eq, Nat.zero_add, Nat.le_refl, Int.toNat_natCast, Int.ofNat_lt, Int.natCast_nonneg, decide_eq_true_eq, decide_eq_false_iff_not, bne_iff_ne, ne_eq]; try dsimp only [Kd.T, Kds.T, AK.T, AKs.T])
    rw [sumListR, if_neg e, if_pos (by omega)]
    exact ⟨rfl, rfl⟩
  have hl : l.length ≤ 1000 := by omega
  refine AM.run2 hG 100 (by cbv) ?_ ?_
  · (simp only [sxs, sxb, and_self, and_true, true_and, implies_true, imp_self, bne_eq_false_iff_eq, Nat.zero_add, Nat.le_refl, Int.toNat_natCast, Int.ofNat_lt, Int.natCast_nonneg, decide_eq_true_eq, decide_eq_false_iff_not, bne_iff_ne, ne_eq]; try dsimp only [Kd.T, Kds.T, AK.T, AKs.T])
  refine AM.loopI (fun i : Nat => (frame 33 [(1, .ro I64 fun _ => l), (2, .ptr 0 0), (6, .ptr 1 0), (7, .int .i64 (.t fun _ => nI i))], [.box 23 [.int .i64 (.t fun _ => lo), .int .i64 (.t fun _ => hi)], .box 53 [.int .i64 (.t fun _ => (canonN (sumL (l.take i))).1), .ro U64 fun _ => (canonN (sumL (l.take i))).2.1]]))
    (fun i => i ≤ l.length) (fun i => l.length - i) 0 (by omega) ?_ ?_ ?_
  · cbv; (simp only [sxs, sxb, and_self, and_true, true_and, implies_true, imp_self, bne_eq_false_iff_eq, Nat.zero_add, Nat.le_refl, Int.toNat_natCast, Int.ofNat_lt, Int.natCast_nonneg, decide_eq_true_eq, decide_eq_false_iff_not, bne_iff_ne, ne_eq]; try dsimp only [Kd.T, Kds.T, AK.T, AKs.T])
    try rfl
  · cbv; (simp only [sxs, sxb, and_self, and_true, true_and, implies_true, imp_self, bne_eq_false_iff_eq, Nat.zero_add, Nat.le_refl, Int.toNat_natCast, Int.ofNat_lt, Int.natCast_nonneg, decide_eq_true_eq, decide_eq_false_iff_not, bne_iff_ne, ne_eq]; try dsimp only [Kd.T, Kds.T, AK.T, AKs.T])
    exact ⟨rfl, digs_zero⟩
  rintro i hile ih
  have hb := sumL_bound (l := l.take i) fun n hn => hin n (List.mem_of_mem_take hn)
  have hti : (l.take i).length ≤ 1000 := by rw [List.length_take]; omega
  have hc := canon_len5 (n := sumL (l.take i)) ⟨by omega, by omega⟩
  obtain ⟨v, hv⟩ : ∃ v, sumL (l.take i) = v := ⟨_, rfl⟩
  rw [hv] at hc
  simp only [hv]
  refine AM.run2 hG 100 (by cbv) ?_ ?_
  · (simp only [sxs, sxb, and_self, and_true, true_and, implies_true, imp_self, bne_eq_false_iff_eq, Nat.zero_add, Nat.le_refl, Int.toNat_natCast, Int.ofNat_lt, Int.natCast_nonneg, decide_eq_true_eq, decide_eq_false_iff_not, bne_iff_ne, ne_eq]; try dsimp only [Kd.T, Kds.T, AK.T, AKs.T])
  refine AM.case 18 rfl (fun h => ?_) (fun h => ?_) <;> (simp only [sxs, sxb, and_self, and_true, true_and, implies_true, imp_self, bne_eq_false_iff_eq, Nat.zero_add, Nat.le_refl, Int.toNat_natCast, Int.ofNat_lt, Int.natCast_nonneg, decide_eq_true_eq, decide_eq_false_iff_not, bne_iff_ne, ne_eq] at h; try dsimp only [Kd.T, Kds.T, AK.T, AKs.T] at h)
  · have hd := hin _ (getD_mem h 0)
    have hd' := hd
    unfold inI at hd'
    have hdl := canon_len (n := l.getD i 0) ⟨by omega, by omega⟩
    have hs : sumL (l.take (i + 1)) = v + l.getD i 0 := by rw [take_succD h, sumL_app, hv, sumL, sumL, Int.add_zero]
    refine AM.run2 hG 100 (by cbv) ?_ ?_
    · (simp only [sxs, sxb, and_self, and_true, true_and, implies_true, imp_self, bne_eq_false_iff_eq, Nat.zero_add, Nat.le_refl, Int.toNat_natCast, Int.ofNat_lt, Int.natCast_nonneg, decide_eq_true_eq, decide_eq_false_iff_not, bne_iff_ne, ne_eq]; try dsimp only [Kd.T, Kds.T, AK.T, AKs.T])
      exact ⟨h, h, hd, okN_canon v, okN_canon _, by omega, by omega⟩
    refine AM.imp2 (by cbv) (by cbv) ?_ ?_ (ih (i + 1) (by omega) (by omega))
    · (simp only [sxs, sxb, and_self, and_true, true_and, implies_true, imp_self, bne_eq_false_iff_eq, Nat.zero_add, Nat.le_refl, Int.toNat_natCast, Int.ofNat_lt, Int.natCast_nonneg, decide_eq_true_eq, decide_eq_false_iff_not, bne_iff_ne, ne_eq]; try dsimp only [Kd.T, Kds.T, AK.T, AKs.T])
      rw [w64s (by omega)]
    · (simp only [sxs, sxb, and_self, and_true, true_and, implies_true, imp_self, bne_eq_false_iff_eq, Nat.zero_add, Nat.le_refl, Int.toNat_natCast, Int.ofNat_lt, Int.natCast_nonneg, decide_eq_true_eq, decide_eq_false_iff_not, bne_iff_ne, ne_eq]; try dsimp only [Kd.T, Kds.T, AK.T, AKs.T])
      have w1 : valN ((canonN v).1, (canonN v).2.1, PUnit.unit) = v := valN_canon v
      have w2 : valN ((canonN (l.getD i 0)).1, (canonN (l.getD i 0)).2.1, PUnit.unit) = l.getD i 0 := valN_canon _
      rw [w1, w2, hs]
      exact ⟨rfl, rfl⟩
  · obtain rfl : i = l.length := by omega
    rw [List.take_length] at hv
    refine AM.run2 hG 100 (by cbv) ?_ ?_
    · (simp only [sxs, sxb, and_self, and_true, true_and, implies_true, imp_self, bne_eq_false_iff_eq, Nat.zero_add, Nat.le_refl, Int.toNat_natCast, Int.ofNat_lt, Int.natCast_nonneg, decide_eq_true_eq, decide_eq_false_iff_not, bne_iff_ne, ne_eq]; try dsimp only [Kd.T, Kds.T, AK.T, AKs.T])
      exact ⟨hlo, hhi, okN_canon v, by omega⟩
    refine AM.ret2 hG (by cbv) (by (simp only [sxs, sxb, and_self, and_true, true_and, implies_true, imp_self, bne_eq_false_iff_eq, Nat.zero_add, Nat.le_refl, Int.toNat_natCast, Int.ofNat_lt, Int.natCast_nonneg, decide_eq_true_eq, decide_eq_false_iff_not, bne_iff_ne, ne_eq]; try dsimp only [Kd.T, Kds.T, AK.T, AKs.T])) (hQ _ _ (FinRo.of (by cbv) (by cbv) ?_ ?_))
    · (simp only [sxs, sxb, and_self, and_true, true_and, implies_true, imp_self, bne_eq_false_iff_eq, Nat.zero_add, Nat.le_refl, Int.toNat_natCast, Int.ofNat_lt, Int.natCast_nonneg, decide_eq_true_eq, decide_eq_false_iff_not, bne_iff_ne, ne_eq]; try dsimp only [Kd.T, Kds.T, AK.T, AKs.T])
    try (simp only [sxs, sxb, and_self, and_true, true_and, implies_true, imp_self, bne_eq_false_iff_eq, Nat.zero_add, Nat.le_refl, Int.toNat_natCast, Int.ofNat_lt, Int.natCast_nonneg, decide_eq_true_eq, decide_eq_false_iff_not, bne_iff_ne, ne_eq]; try dsimp only [Kd.T, Kds.T, AK.T, AKs.T])
    rw [sumListR, if_neg e, if_neg (by omega), hv]
    have w1 : valN ((canonN v).1, (canonN v).2.1, PUnit.unit) = v := valN_canon v
    rw [w1]
    exact ⟨rfl, rfl⟩
def S29 : List AV → Option FOut := sigSpec [I64, I64] [IntsK, I64] (fun x : Int × Int × Unit => let r := splitS x.1 x.2.1; (r.1, r.2, ())) (fun x : Int × Int × Unit => inI x.1)
set_option maxHeartbeats 8000000 in
theorem fn29 : FnOk Try.prog 29 S29 := by
  refine fn_ofB (rs := [.tmp 4, .tmp 5]) (env [] trivial) Try.func29 (by kernel_rfl) rfl rfl Try.ntmps29 ?_
  rintro ⟨(n : Int), (p : Int), u⟩ (hn : inI n) G hG hB hQ
  have hB := GB.of hB
  refine AM.run2 hG 100 (by cbv) ?_ ?_
  · (simp only [sxs, sxb, and_self, and_true, true_and, implies_true, imp_self, bne_eq_false_iff_eq, Nat.zero_add, Nat.le_refl, Int.toNat_natCast, Int.ofNat_lt, Int.natCast_nonneg, decide_eq_true_eq, decide_eq_false_iff_not, bne_iff_ne, ne_eq]; try dsimp only [Kd.T, Kds.T, AK.T, AKs.T])
    try exact ⟨fun a b => ⟨a, b⟩, fun a b => ⟨a, b⟩⟩
  refine AM.case 18 rfl (fun h => ?_) (fun h => ?_) <;> (simp only [sxs, sxb, and_self, and_true, true_and, implies_true, imp_self, bne_eq_false_iff_eq, Nat.zero_add, Nat.le_refl, Int.toNat_natCast, Int.ofNat_lt, Int.natCast_nonneg, decide_eq_true_eq, decide_eq_false_iff_not, bne_iff_ne, ne_eq] at h; try dsimp only [Kd.T, Kds.T, AK.T, AKs.T] at h)
  · refine AM.run2 hG 100 (by cbv) ?_ ?_
    · (simp only [sxs, sxb, and_self, and_true, true_and, implies_true, imp_self, bne_eq_false_iff_eq, Nat.zero_add, Nat.le_refl, Int.toNat_natCast, Int.ofNat_lt, Int.natCast_nonneg, decide_eq_true_eq, decide_eq_false_iff_not, bne_iff_ne, ne_eq]; try dsimp only [Kd.T, Kds.T, AK.T, AKs.T])
    refine AM.ret2 hG (by cbv) (by (simp only [sxs, sxb, and_self, and_true, true_and, implies_true, imp_self, bne_eq_false_iff_eq, Nat.zero_add, Nat.le_refl, Int.toNat_natCast, Int.ofNat_lt, Int.natCast_nonneg, decide_eq_true_eq, decide_eq_false_iff_not, bne_iff_ne, ne_eq]; try dsimp only [Kd.T, Kds.T, AK.T, AKs.T])) (hQ _ _ (FinRo.of (by cbv) (by cbv) ?_ ?_))
    · (simp only [sxs, sxb, and_self, and_true, true_and, implies_true, imp_self, bne_eq_false_iff_eq, Nat.zero_add, Nat.le_refl, Int.toNat_natCast, Int.ofNat_lt, Int.natCast_nonneg, decide_eq_true_eq, decide_eq_false_iff_not, bne_iff_ne, ne_eq]; try dsimp only [Kd.T, Kds.T, AK.T, AKs.T])
    try (simp only [sxs, sxb, and_self, and_true, true_and, implies_true, imp_self, bne_eq_false_iff_eq, Nat.zero_add, Nat.le_refl, Int.toNat_natCast, Int.ofNat_lt, Int.natCast_nonneg, decide_eq_true_eq, decide_eq_false_iff_not, bne_iff_ne, ne_eq]; try dsimp only [Kd.T, Kds.T, AK.T, AKs.T])
    rw [splitS, if_pos (by omega)]
    exact ⟨rfl, rfl⟩
  have h0 : 0 ≤ n ∧ 1 ≤ p ∧ p ≤ 1000 := by omega
  unfold inI at hn
  have t1 : n.tdiv p = n / p := Int.tdiv_eq_ediv_of_nonneg h0.1
  have t2 : n.tmod p = n % p := Int.tmod_eq_emod_of_nonneg h0.1
  have t3 := Int.ediv_mul_add_emod n p
  have t4 := Int.emod_nonneg n (show p ≠ 0 by omega)
  have t5 : 0 ≤ n / p := Int.ediv_nonneg h0.1 (by omega)
  have t6 : n / p ≤ n / p * p := by
    have := Int.mul_le_mul_of_nonneg_left h0.2.1 t5
    omega
  refine AM.run2 hG 100 (by cbv) ?_ ?_
  · (simp only [sxs, sxb, and_self, and_true, true_and, implies_true, imp_self, bne_eq_false_iff_eq, Nat.zero_add, Nat.le_refl, Int.toNat_natCast, Int.ofNat_lt, Int.natCast_nonneg, decide_eq_true_eq, decide_eq_false_iff_not, bne_iff_ne, ne_eq]; try dsimp only [Kd.T, Kds.T, AK.T, AKs.T])
  refine AM.emptySlot 6 3 I64 rfl ?_
  refine AM.loopI (fun x : Nat × List Int => (frame 39 [(0, .int .i64 (.t fun _ => n)), (1, .int .i64 (.t fun _ => p)), (6, .sl 0 1 (.l 0) (.t fun _ => x.2.length)), (7, .int .i64 (.t fun _ => nI x.1))], [.row 3 I64 fun _ => x.2]))
    (fun x => x.1 ≤ p.toNat ∧ x.2 = splitL n p x.1) (fun x => p.toNat - x.1) (0, []) ⟨by omega, by simp [splitL]⟩ ?_ ?_ ?_
  · cbv; (simp only [sxs, sxb, and_self, and_true, true_and, implies_true, imp_self, bne_eq_false_iff_eq, Nat.zero_add, Nat.le_refl, Int.toNat_natCast, Int.ofNat_lt, Int.natCast_nonneg, decide_eq_true_eq, decide_eq_false_iff_not, bne_iff_ne, ne_eq]; try dsimp only [Kd.T, Kds.T, AK.T, AKs.T])
    try rfl
  · cbv; (simp only [sxs, sxb, and_self, and_true, true_and, implies_true, imp_self, bne_eq_false_iff_eq, Nat.zero_add, Nat.le_refl, Int.toNat_natCast, Int.ofNat_lt, Int.natCast_nonneg, decide_eq_true_eq, decide_eq_false_iff_not, bne_iff_ne, ne_eq]; try dsimp only [Kd.T, Kds.T, AK.T, AKs.T])
  rintro ⟨i, l⟩ ⟨hi, hl⟩ ih
  simp only at hi hl ih
  have hll : l.length = i := by rw [hl, splitL_len]
  refine AM.run2 hG 100 (by cbv) ?_ ?_
  · (simp only [sxs, sxb, and_self, and_true, true_and, implies_true, imp_self, bne_eq_false_iff_eq, Nat.zero_add, Nat.le_refl, Int.toNat_natCast, Int.ofNat_lt, Int.natCast_nonneg, decide_eq_true_eq, decide_eq_false_iff_not, bne_iff_ne, ne_eq]; try dsimp only [Kd.T, Kds.T, AK.T, AKs.T])
  refine AM.case 21 rfl (fun g => ?_) (fun g => ?_) <;> (simp only [sxs, sxb, and_self, and_true, true_and, implies_true, imp_self, bne_eq_false_iff_eq, Nat.zero_add, Nat.le_refl, Int.toNat_natCast, Int.ofNat_lt, Int.natCast_nonneg, decide_eq_true_eq, decide_eq_false_iff_not, bne_iff_ne, ne_eq] at g; try dsimp only [Kd.T, Kds.T, AK.T, AKs.T] at g)
  · refine AM.run2 hG 100 (by cbv) ?_ ?_
    · (simp only [sxs, sxb, and_self, and_true, true_and, implies_true, imp_self, bne_eq_false_iff_eq, Nat.zero_add, Nat.le_refl, Int.toNat_natCast, Int.ofNat_lt, Int.natCast_nonneg, decide_eq_true_eq, decide_eq_false_iff_not, bne_iff_ne, ne_eq]; try dsimp only [Kd.T, Kds.T, AK.T, AKs.T])
      omega
    have hwq : IntKind.i64.wrap (n.tdiv p) = n.tdiv p := w64 (by omega) (by omega)
    refine AM.case 31 rfl (fun e => ?_) (fun e => ?_) <;> (simp only [sxs, sxb, and_self, and_true, true_and, implies_true, imp_self, bne_eq_false_iff_eq, Nat.zero_add, Nat.le_refl, Int.toNat_natCast, Int.ofNat_lt, Int.natCast_nonneg, decide_eq_true_eq, decide_eq_false_iff_not, bne_iff_ne, ne_eq] at e; try dsimp only [Kd.T, Kds.T, AK.T, AKs.T] at e)
    · refine AM.run2 hG 100 (by cbv) ?_ ?_
      · (simp only [sxs, sxb, and_self, and_true, true_and, implies_true, imp_self, bne_eq_false_iff_eq, Nat.zero_add, Nat.le_refl, Int.toNat_natCast, Int.ofNat_lt, Int.natCast_nonneg, decide_eq_true_eq, decide_eq_false_iff_not, bne_iff_ne, ne_eq]; try dsimp only [Kd.T, Kds.T, AK.T, AKs.T])
        simp only [maxLen, List.length_take, List.length_cons, List.length_nil]
        omega
      obtain ⟨l2, hl2⟩ : ∃ l2, splitL n p (i + 1) = l2 := ⟨_, rfl⟩
      have hl3 := splitL_succ n p i
      rw [hl2, ← hl] at hl3
      refine AM.ren hB [2] (by cbv) (by cbv) (by cbv) ?_ ?_ (ih (i + 1, l2) ⟨by simp only; omega, hl2.symm⟩ (by simp only; omega))
      · (simp only [sxs, sxb, and_self, and_true, true_and, implies_true, imp_self, bne_eq_false_iff_eq, Nat.zero_add, Nat.le_refl, Int.toNat_natCast, Int.ofNat_lt, Int.natCast_nonneg, decide_eq_true_eq, decide_eq_false_iff_not, bne_iff_ne, ne_eq]; try dsimp only [Kd.T, Kds.T, AK.T, AKs.T])
        rw [w64s (by omega), hl3]
        simp
      · (simp only [sxs, sxb, and_self, and_true, true_and, implies_true, imp_self, bne_eq_false_iff_eq, Nat.zero_add, Nat.le_refl, Int.toNat_natCast, Int.ofNat_lt, Int.natCast_nonneg, decide_eq_true_eq, decide_eq_false_iff_not, bne_iff_ne, ne_eq]; try dsimp only [Kd.T, Kds.T, AK.T, AKs.T])
        rw [hl3, hwq, partS]
        first | rw [if_pos e, w64 (by omega) (by omega)] | rw [if_neg e, Int.add_zero]
        rfl
    · refine AM.run2 hG 100 (by cbv) ?_ ?_
      · (simp only [sxs, sxb, and_self, and_true, true_and, implies_true, imp_self, bne_eq_false_iff_eq, Nat.zero_add, Nat.le_refl, Int.toNat_natCast, Int.ofNat_lt, Int.natCast_nonneg, decide_eq_true_eq, decide_eq_false_iff_not, bne_iff_ne, ne_eq]; try dsimp only [Kd.T, Kds.T, AK.T, AKs.T])
        simp only [maxLen, List.length_take, List.length_cons, List.length_nil]
        omega
      obtain ⟨l2, hl2⟩ : ∃ l2, splitL n p (i + 1) = l2 := ⟨_, rfl⟩
      have hl3 := splitL_succ n p i
      rw [hl2, ← hl] at hl3
      refine AM.ren hB [2] (by cbv) (by cbv) (by cbv) ?_ ?_ (ih (i + 1, l2) ⟨by simp only; omega, hl2.symm⟩ (by simp only; omega))
      · (simp only [sxs, sxb, and_self, and_true, true_and, implies_true, imp_self, bne_eq_false_iff_eq, Nat.zero_add, Nat.le_refl, Int.toNat_natCast, Int.ofNat_lt, Int.natCast_nonneg, decide_eq_true_eq, decide_eq_false_iff_not, bne_iff_ne, ne_eq]; try dsimp only [Kd.T, Kds.T, AK.T, AKs.T])
        rw [w64s (by omega), hl3]
        simp
      · (simp only [sxs, sxb, and_self, and_true, true_and, implies_true, imp_self, bne_eq_false_iff_eq, Nat.zero_add, Nat.le_refl, Int.toNat_natCast, Int.ofNat_lt, Int.natCast_nonneg, decide_eq_true_eq, decide_eq_false_iff_not, bne_iff_ne, ne_eq]; try dsimp only [Kd.T, Kds.T, AK.T, AKs.T])
        rw [hl3, hwq, partS]
        first | rw [if_pos e, w64 (by omega) (by omega)] | rw [if_neg e, Int.add_zero]
        rfl
  · obtain rfl : i = p.toNat := by omega
    refine AM.run2 hG 100 (by cbv) ?_ ?_
    · (simp only [sxs, sxb, and_self, and_true, true_and, implies_true, imp_self, bne_eq_false_iff_eq, Nat.zero_add, Nat.le_refl, Int.toNat_natCast, Int.ofNat_lt, Int.natCast_nonneg, decide_eq_true_eq, decide_eq_false_iff_not, bne_iff_ne, ne_eq]; try dsimp only [Kd.T, Kds.T, AK.T, AKs.T])
    refine AM.ret2 hG (by cbv) (by (simp only [sxs, sxb, and_self, and_true, true_and, implies_true, imp_self, bne_eq_false_iff_eq, Nat.zero_add, Nat.le_refl, Int.toNat_natCast, Int.ofNat_lt, Int.natCast_nonneg, decide_eq_true_eq, decide_eq_false_iff_not, bne_iff_ne, ne_eq]; try dsimp only [Kd.T, Kds.T, AK.T, AKs.T])) (hQ _ _ (FinRo.of (by cbv) (by cbv) ?_ ?_))
    · (simp only [sxs, sxb, and_self, and_true, true_and, implies_true, imp_self, bne_eq_false_iff_eq, Nat.zero_add, Nat.le_refl, Int.toNat_natCast, Int.ofNat_lt, Int.natCast_nonneg, decide_eq_true_eq, decide_eq_false_iff_not, bne_iff_ne, ne_eq]; try dsimp only [Kd.T, Kds.T, AK.T, AKs.T])
    try (simp only [sxs, sxb, and_self, and_true, true_and, implies_true, imp_self, bne_eq_false_iff_eq, Nat.zero_add, Nat.le_refl, Int.toNat_natCast, Int.ofNat_lt, Int.natCast_nonneg, decide_eq_true_eq, decide_eq_false_iff_not, bne_iff_ne, ne_eq]; try dsimp only [Kd.T, Kds.T, AK.T, AKs.T])
    rw [splitS, if_neg (by omega), hl]
    rw [List.take_length]
    exact ⟨rfl, rfl⟩
def S25 : List AV → Option FOut := sigSpec [IntsK] [IntsK] (fun x : List Int × Unit => (x.1, ())) (fun x : List Int × Unit => x.1.length ≤ 1000000)
theorem fn25 : FnOk Try.prog 25 S25 := by
  refine fn_of (rs := [.tmp 2]) (env [] trivial) Try.func25 (by kernel_rfl) rfl rfl Try.ntmps25 ?_
  rintro ⟨(l : List Int), u⟩ hl G hG hQ
  simp only at hl
  refine AM.run2 hG 100 (by cbv) ?_ ?_
  · (simp only [sxs, sxb, and_self, and_true, true_and, implies_true, imp_self, bne_eq_false_iff_eq, Nat.zero_add, Nat.le_refl, Int.toNat_natCast, Int.ofNat_lt, Int.natCast_nonneg, decide_eq_true_eq, decide_eq_false_iff_not, bne_iff_ne, ne_eq]; try dsimp only [Kd.T, Kds.T, AK.T, AKs.T])
    simp only [maxLen]
    omega
  refine AM.ret2 hG (by cbv) (by (simp only [sxs, sxb, and_self, and_true, true_and, implies_true, imp_self, bne_eq_false_iff_eq, Nat.zero_add, Nat.le_refl, Int.toNat_natCast, Int.ofNat_lt, Int.natCast_nonneg, decide_eq_true_eq, decide_eq_false_iff_not, bne_iff_ne, ne_eq]; try dsimp only [Kd.T, Kds.T, AK.T, AKs.T])) (hQ _ _ (FinRo.of (by cbv) (by cbv) ?_ ?_))
  · (simp only [sxs, sxb, and_self, and_true, true_and, implies_true, imp_self, bne_eq_false_iff_eq, Nat.zero_add, Nat.le_refl, Int.toNat_natCast, Int.ofNat_lt, Int.natCast_nonneg, decide_eq_true_eq, decide_eq_false_iff_not, bne_iff_ne, ne_eq]; try dsimp only [Kd.T, Kds.T, AK.T, AKs.T])
  try (simp only [sxs, sxb, and_self, and_true, true_and, implies_true, imp_self, bne_eq_false_iff_eq, Nat.zero_add, Nat.le_refl, Int.toNat_natCast, Int.ofNat_lt, Int.natCast_nonneg, decide_eq_true_eq, decide_eq_false_iff_not, bne_iff_ne, ne_eq]; try dsimp only [Kd.T, Kds.T, AK.T, AKs.T])
  exact List.take_length
set_option maxHeartbeats 8000000 in
theorem law5 : FnOk Try.prog 5 (sigSpec [WithinK, IntsK, I64, I64] [.bool] (fun _ => (true, ())) (Kds.wf [WithinK, IntsK, I64, I64])) := by
  refine fn_of (rs := [.tmp 8]) (env [(14, S14), (25, S25), (26, S26), (27, S27), (28, S28), (29, S29), (30, S30)]
    ⟨fn14, fn25, fn26, fn27, fn28, fn29, fn30, trivial⟩) Try.func5 (by kernel_rfl) rfl rfl Try.ntmps5 ?_
  rintro ⟨⟨(lo : Int), (hi : Int), u1⟩, (l : List Int), (n : Int), (p : Int), u⟩ ⟨⟨hlo, hhi, _⟩, hl0, hn, hp, _⟩ G hG hQ
  replace hn : inI n := wfI hn
  replace hlo : inI lo := wfI hlo
  replace hhi : inI hi := wfI hhi
  replace hl0 : ∀ x ∈ l, inI x := fun x hx => wfI (hl0 x hx)
  have hsl := split_len n p
  refine AM.run2 hG 100 (by cbv) ?_ ?_
  · (simp only [sxs, sxb, and_self, and_true, true_and, implies_true, imp_self, bne_eq_false_iff_eq, Nat.zero_add, Nat.le_refl, Int.toNat_natCast, Int.ofNat_lt, Int.natCast_nonneg, decide_eq_true_eq, decide_eq_false_iff_not, bne_iff_ne, ne_eq]; try dsimp only [Kd.T, Kds.T, AK.T, AKs.T])
  refine AM.case 20 rfl (fun h => ?_) (fun h => ?_) <;> (simp only [sxs, sxb, and_self, and_true, true_and, implies_true, imp_self, bne_eq_false_iff_eq, Nat.zero_add, Nat.le_refl, Int.toNat_natCast, Int.ofNat_lt, Int.natCast_nonneg, decide_eq_true_eq, decide_eq_false_iff_not, bne_iff_ne, ne_eq] at h; try dsimp only [Kd.T, Kds.T, AK.T, AKs.T] at h)
  · refine AM.run2 hG 100 (by cbv) ?_ ?_
    · (simp only [sxs, sxb, and_self, and_true, true_and, implies_true, imp_self, bne_eq_false_iff_eq, Nat.zero_add, Nat.le_refl, Int.toNat_natCast, Int.ofNat_lt, Int.natCast_nonneg, decide_eq_true_eq, decide_eq_false_iff_not, bne_iff_ne, ne_eq]; try dsimp only [Kd.T, Kds.T, AK.T, AKs.T])
    refine AM.ret2 hG (by cbv) (by (simp only [sxs, sxb, and_self, and_true, true_and, implies_true, imp_self, bne_eq_false_iff_eq, Nat.zero_add, Nat.le_refl, Int.toNat_natCast, Int.ofNat_lt, Int.natCast_nonneg, decide_eq_true_eq, decide_eq_false_iff_not, bne_iff_ne, ne_eq]; try dsimp only [Kd.T, Kds.T, AK.T, AKs.T])) (hQ _ _ (FinRo.of (by cbv) (by cbv) ?_ ?_))
    · (simp only [sxs, sxb, and_self, and_true, true_and, implies_true, imp_self, bne_eq_false_iff_eq, Nat.zero_add, Nat.le_refl, Int.toNat_natCast, Int.ofNat_lt, Int.natCast_nonneg, decide_eq_true_eq, decide_eq_false_iff_not, bne_iff_ne, ne_eq]; try dsimp only [Kd.T, Kds.T, AK.T, AKs.T])
    try (simp only [sxs, sxb, and_self, and_true, true_and, implies_true, imp_self, bne_eq_false_iff_eq, Nat.zero_add, Nat.le_refl, Int.toNat_natCast, Int.ofNat_lt, Int.natCast_nonneg, decide_eq_true_eq, decide_eq_false_iff_not, bne_iff_ne, ne_eq]; try dsimp only [Kd.T, Kds.T, AK.T, AKs.T])
  refine AM.run2 hG 300 (by cbv) ?_ ?_
  · (simp only [sxs, sxb, and_self, and_true, true_and, implies_true, imp_self, bne_eq_false_iff_eq, Nat.zero_add, Nat.le_refl, Int.toNat_natCast, Int.ofNat_lt, Int.natCast_nonneg, decide_eq_true_eq, decide_eq_false_iff_not, bne_iff_ne, ne_eq]; try dsimp only [Kd.T, Kds.T, AK.T, AKs.T])
    exact ⟨fun _ => by omega, fun _ => by omega, hn, hn, ⟨hlo, hhi, hl0⟩, hl0, by omega⟩
  refine AM.ret2 hG (by cbv) (by (simp only [sxs, sxb, and_self, and_true, true_and, implies_true, imp_self, bne_eq_false_iff_eq, Nat.zero_add, Nat.le_refl, Int.toNat_natCast, Int.ofNat_lt, Int.natCast_nonneg, decide_eq_true_eq, decide_eq_false_iff_not, bne_iff_ne, ne_eq]; try dsimp only [Kd.T, Kds.T, AK.T, AKs.T])) (hQ _ _ (FinRo.of (by cbv) (by cbv) ?_ ?_))
  · (simp only [sxs, sxb, and_self, and_true, true_and, implies_true, imp_self, bne_eq_false_iff_eq, Nat.zero_add, Nat.le_refl, Int.toNat_natCast, Int.ofNat_lt, Int.natCast_nonneg, decide_eq_true_eq, decide_eq_false_iff_not, bne_iff_ne, ne_eq]; try dsimp only [Kd.T, Kds.T, AK.T, AKs.T])
  try (simp only [sxs, sxb, and_self, and_true, true_and, implies_true, imp_self, bne_eq_false_iff_eq, Nat.zero_add, Nat.le_refl, Int.toNat_natCast, Int.ofNat_lt, Int.natCast_nonneg, decide_eq_true_eq, decide_eq_false_iff_not, bne_iff_ne, ne_eq]; try dsimp only [Kd.T, Kds.T, AK.T, AKs.T])
end Go.Sx.Ytpfdknpbiambnaa

/- Modes made of numbers. -/
import Derived.Test.YtengkdmlnnehgaaM20
namespace Go.Sx.Ytengkdmlnnehgaa
open Go Go.Sx Go.Proofs
set_option linter.unusedVariables false
set_option linter.unusedSimpArgs false
set_option maxRecDepth 100000

theorem law6 : FnOk Try.prog 6 (sigSpec [] [.bool] (fun _ => (true, ())) (Kds.wf [])) := by
  have h := fn6
  unfold S6 at h
  have e : (Kds.wf [] : Kds.T [] → Prop) = fun _ => True := by funext x; simp only [Kds.wf]
  rw [e]
  exact h
theorem all_set {l : List Int} {i : Nat} {x : Int} (h : l.all validS = true) (hx : validS x = true) : (l.set i x).all validS = true := by
  rw [List.all_eq_true] at h ⊢
  intro y hy
  rcases List.mem_or_eq_of_mem_set hy with hy | rfl
  · exact h y hy
  · exact hx
theorem at_ok {m : Modes} {dom car : Int} (h : checkS m = 0) (h1 : 1 ≤ dom ∧ dom ≤ 3) (h2 : 1 ≤ car ∧ car ≤ m.1) : atS m dom car = 0 := by
  unfold atS
  rw [if_pos h, if_neg (by omega)]
theorem valid_of {x : Int} (h : 0 ≤ x ∧ x ≤ 3) : validS x = true := by simp [validS, h]
theorem put_ok {m : Modes} {dom x : Int} {i : Nat} (h : checkS m = 0) (hx : validS x = true) : checkS (putL m dom ((listOf m dom).set i x)) = 0 ∧ (putL m dom ((listOf m dom).set i x)).1 = m.1 := by
  obtain ⟨h6, h7, ⟨h8, h9, h10⟩, hk⟩ := check0 h
  simp only [kindsOk, Bool.and_eq_true] at hk
  obtain ⟨⟨k0, k1⟩, k2⟩ := hk
  unfold putL listOf
  split
  · refine ⟨?_, rfl⟩
    unfold checkS
    rw [if_neg (by simp only; omega), if_neg (by simp only [lensOk, List.length_set, Decidable.not_not]; exact ⟨h8, h9, h10⟩), if_pos (by simp only [kindsOk, all_set k0 hx, k1, k2, Bool.and_self])]
  · split
    · refine ⟨?_, rfl⟩
      unfold checkS
      rw [if_neg (by simp only; omega), if_neg (by simp only [lensOk, List.length_set, Decidable.not_not]; exact ⟨h8, h9, h10⟩), if_pos (by simp only [kindsOk, all_set k1 hx, k0, k2, Bool.and_self])]
    · refine ⟨?_, rfl⟩
      unfold checkS
      rw [if_neg (by simp only; omega), if_neg (by simp only [lensOk, List.length_set, Decidable.not_not]; exact ⟨h8, h9, h10⟩), if_pos (by simp only [kindsOk, all_set k2 hx, k0, k1, Bool.and_self])]
theorem set_ok {m : Modes} {dom car x : Int} (h : checkS m = 0) (h1 : 1 ≤ dom ∧ dom ≤ 3) (h2 : 1 ≤ car ∧ car ≤ m.1) (h3 : 0 ≤ x ∧ x ≤ 3) :
    setS m dom car x = (putL m dom ((listOf m dom).set (car - 1).toNat x), 0) := by
  unfold setS
  rw [if_pos (at_ok h h1 h2), if_pos (valid_of h3)]
theorem new_ok {c : Int} (h : 1 ≤ c ∧ c ≤ 8) : (newS c).2 = 0 ∧ checkS (newS c).1 = 0 ∧ (newS c).1.1 = c := by
  unfold newS
  rw [if_neg (by omega)]
  refine ⟨rfl, ?_, rfl⟩
  have hv : ∀ n : Nat, (List.replicate n (0 : Int)).all validS = true := by
    intro n
    rw [List.all_eq_true]
    intro y hy
    rw [(List.mem_replicate.1 hy).2]
    rfl
  unfold checkS
  rw [if_neg (by simp only; omega), if_neg (by simp only [lensOk, List.length_replicate, Decidable.not_not]; omega), if_pos (by simp only [kindsOk, hv, Bool.and_self])]

/-- The numbers' settings. -/
def numS (x : Int) : Int := modS x 1048576
def stepM (m : Modes) (x : Int) : Modes := (setS m (1 + (numS x).tmod 3) (1 + ((numS x).tdiv 3).tmod m.1) (((numS x).tdiv 24).tmod 4)).1
def carsS (c : Int) : Int := 1 + modS c 8
def madeN (c : Int) (l : List Int) : Modes := (l.take 40).foldl stepM (newS (carsS c)).1
theorem num_bd (x : Int) : 0 ≤ numS x ∧ numS x < 1048576 := by
  unfold numS modS
  rw [if_neg (by omega)]
  omega
theorem cars_bd (c : Int) : 1 ≤ carsS c ∧ carsS c ≤ 8 := by
  unfold carsS modS
  rw [if_neg (by omega)]
  omega
/-- What is set by a number is allowed. -/
theorem trio {n c : Int} (h0 : 0 ≤ n) (hc : 1 ≤ c) : (1 ≤ 1 + n.tmod 3 ∧ 1 + n.tmod 3 ≤ 3) ∧ (1 ≤ 1 + (n.tdiv 3).tmod c ∧ 1 + (n.tdiv 3).tmod c ≤ c) ∧ (0 ≤ (n.tdiv 24).tmod 4 ∧ (n.tdiv 24).tmod 4 ≤ 3) := by
  have h1 : 0 ≤ n.tdiv 3 := Int.tdiv_nonneg h0 (by omega)
  have h2 : 0 ≤ n.tdiv 24 := Int.tdiv_nonneg h0 (by omega)
  rw [Int.tmod_eq_emod_of_nonneg h0, Int.tmod_eq_emod_of_nonneg h1, Int.tmod_eq_emod_of_nonneg h2]
  have h3 := Int.emod_nonneg (n.tdiv 3) (show c ≠ 0 by omega)
  have h4 := Int.emod_lt_of_pos (n.tdiv 3) (show 0 < c by omega)
  refine ⟨by omega, by omega, by omega⟩
theorem step_ok {m : Modes} {x : Int} (h : checkS m = 0) : checkS (stepM m x) = 0 ∧ (stepM m x).1 = m.1 ∧ (setS m (1 + (numS x).tmod 3) (1 + ((numS x).tdiv 3).tmod m.1) (((numS x).tdiv 24).tmod 4)).2 = 0 := by
  obtain ⟨t1, t2, t3⟩ := trio (num_bd x).1 (check0 h).1
  have hs := set_ok h t1 t2 t3
  have hp := put_ok (i := ((1 + ((numS x).tdiv 3).tmod m.1) - 1).toNat) (dom := 1 + (numS x).tmod 3) h (valid_of t3)
  unfold stepM
  rw [hs]
  exact ⟨hp.1, hp.2, rfl⟩
theorem fold_ok : ∀ (l : List Int) (m : Modes), checkS m = 0 → checkS (l.foldl stepM m) = 0 ∧ (l.foldl stepM m).1 = m.1
  | [], m, h => ⟨h, rfl⟩
  | x :: l, m, h => by
    have h1 := step_ok (x := x) h
    have h2 := fold_ok l (stepM m x) h1.1
    exact ⟨h2.1, h2.2.trans h1.2.1⟩
theorem made_ok (c : Int) (l : List Int) : checkS (madeN c l) = 0 ∧ (madeN c l).1 = carsS c := by
  have h := new_ok (cars_bd c)
  have h1 := fold_ok (l.take 40) _ h.2.1
  exact ⟨h1.1, h1.2.trans h.2.2⟩
def boxM (m : Modes) : Blk := .box 34 [.int .i64 (.t fun _ => m.1), .ro I64 fun _ => m.2.1.1, .ro I64 fun _ => m.2.1.2.1, .ro I64 fun _ => m.2.1.2.2.1]
def S37 : List AV → Option FOut := sigSpec [I64, IntsK] [ModesK, .bool] (fun x : Int × List Int × Unit => (madeN x.1 x.2.1, true, ())) (fun _ => True)
theorem fn37 : FnOk Try.prog 37 S37 := by
  refine fn_of (rs := [.cell 4 34, .tmp 5]) (env [(38, S38), (19, S19), (26, S26), (22, S22)] ⟨fn38, fn19, fn26, fn22, trivial⟩) Try.func37 (by kernel_rfl) rfl rfl Try.ntmps37 ?_
  rintro ⟨(c : Int), (l : List Int), u⟩ _ G hG hQ
  have hcb := cars_bd c
  have hcd : carsS c = 1 + modS c 8 := rfl
  have hnew := new_ok hcb
  have hw : IntKind.i64.wrap (1 + modS c 8) = carsS c := by rw [w64 (by omega) (by omega)]; rfl
  refine AM.run2 hG 100 (by cbv) ?_ ?_
  · (simp only [sxs, sxb, and_self, and_true, true_and, implies_true, imp_self, bne_eq_false_iff_eq, Nat.zero_add, Nat.le_refl, Int.toNat_natCast, Int.ofNat_lt, Int.natCast_nonneg, decide_eq_true_eq, decide_eq_false_iff_not, bne_iff_ne, ne_eq]; try dsimp only [Kd.T, Kds.T])
    omega
  refine AM.pin 7 0 rfl ?_ ?_
  · (simp only [sxs, sxb, and_self, and_true, true_and, implies_true, imp_self, bne_eq_false_iff_eq, Nat.zero_add, Nat.le_refl, Int.toNat_natCast, Int.ofNat_lt, Int.natCast_nonneg, decide_eq_true_eq, decide_eq_false_iff_not, bne_iff_ne, ne_eq, hw]; try dsimp only [Kd.T, Kds.T])
    exact hnew.1
  obtain ⟨m0, hm0⟩ : ∃ m0, (newS (carsS c)).1 = m0 := ⟨_, rfl⟩
  obtain ⟨kc, hkc⟩ : ∃ kc, carsS c = kc := ⟨_, rfl⟩
  rw [hkc] at hnew hcb hw hm0
  rw [hm0] at hnew
  refine AM.loopI (fun i : Nat × Modes => (frame 67 [(0, .int .i64 (.t fun _ => kc)), (1, .ro I64 fun _ => l), (4, .ptr 0 0), (5, .bool (.l false)), (6, .ptr 1 0), (7, .int .i64 (.l 0)), (8, .int .i64 (.t fun _ => nI i.1))], [.box 34 [.int .i64 (.l 0), .nils, .nils, .nils], boxM i.2]))
    (fun i => i.1 ≤ l.length ∧ i.1 ≤ 40 ∧ checkS i.2 = 0 ∧ i.2.1 = kc ∧ (l.take i.1).foldl stepM m0 = i.2) (fun i => 40 - i.1) (0, m0) ⟨by simp, by simp, hnew.2.1, hnew.2.2, rfl⟩ ?_ ?_ ?_
  · cbv; (simp only [sxs, sxb, and_self, and_true, true_and, implies_true, imp_self, bne_eq_false_iff_eq, Nat.zero_add, Nat.le_refl, Int.toNat_natCast, Int.ofNat_lt, Int.natCast_nonneg, decide_eq_true_eq, decide_eq_false_iff_not, bne_iff_ne, ne_eq, hw]; try dsimp only [Kd.T, Kds.T]); first | rfl | exact ⟨rfl, rfl⟩ | trivial
  · cbv; (simp only [sxs, sxb, and_self, and_true, true_and, implies_true, imp_self, bne_eq_false_iff_eq, Nat.zero_add, Nat.le_refl, Int.toNat_natCast, Int.ofNat_lt, Int.natCast_nonneg, decide_eq_true_eq, decide_eq_false_iff_not, bne_iff_ne, ne_eq, hw, hm0]; try dsimp only [Kd.T, Kds.T])
  rintro ⟨i, m⟩ ⟨hi1, hi2, hm1, hm2, hm3⟩ ih
  simp only at hi1 hi2 hm1 hm2 hm3
  refine AM.run2 hG 100 (by cbv) (by (simp only [sxs, sxb, and_self, and_true, true_and, implies_true, imp_self, bne_eq_false_iff_eq, Nat.zero_add, Nat.le_refl, Int.toNat_natCast, Int.ofNat_lt, Int.natCast_nonneg, decide_eq_true_eq, decide_eq_false_iff_not, bne_iff_ne, ne_eq]; try dsimp only [Kd.T, Kds.T])) ?_
  refine AM.case 29 rfl (fun h => ?_) (fun h => ?_) <;> (simp only [sxs, sxb, and_self, and_true, true_and, implies_true, imp_self, bne_eq_false_iff_eq, Nat.zero_add, Nat.le_refl, Int.toNat_natCast, Int.ofNat_lt, Int.natCast_nonneg, decide_eq_true_eq, decide_eq_false_iff_not, bne_iff_ne, ne_eq] at h; try dsimp only [Kd.T, Kds.T] at h)
  · have hi3 : i < l.length := by omega
    have hst := step_ok (x := l.getD i 0) hm1
    obtain ⟨t1, t2, t3⟩ := trio (num_bd (l.getD i 0)).1 (check0 hm1).1
    have hnb := num_bd (l.getD i 0)
    have hn1 : 0 ≤ (numS (l.getD i 0)).tdiv 3 := Int.tdiv_nonneg hnb.1 (by omega)
    have hn2 : (numS (l.getD i 0)).tdiv 3 ≤ numS (l.getD i 0) := Int.tdiv_le_self 3 hnb.1
    have hn3 : 0 ≤ (numS (l.getD i 0)).tdiv 24 := Int.tdiv_nonneg hnb.1 (by omega)
    have hn4 : (numS (l.getD i 0)).tdiv 24 ≤ numS (l.getD i 0) := Int.tdiv_le_self 24 hnb.1
    have hme : modS (l.getD i 0) 1048576 = numS (l.getD i 0) := rfl
    have w1 : ∀ y : Int, 0 ≤ y → y ≤ 1048576 → IntKind.i64.wrap y = y := fun y _ _ => w64 (by omega) (by omega)
    refine AM.run2 hG 100 (by cbv) ?_ ?_
    · (simp only [sxs, sxb, and_self, and_true, true_and, implies_true, imp_self, bne_eq_false_iff_eq, Nat.zero_add, Nat.le_refl, Int.toNat_natCast, Int.ofNat_lt, Int.natCast_nonneg, decide_eq_true_eq, decide_eq_false_iff_not, bne_iff_ne, ne_eq]; try dsimp only [Kd.T, Kds.T])
      omega
    obtain ⟨m', hm'⟩ : ∃ m', stepM m (l.getD i 0) = m' := ⟨_, rfl⟩
    have hse : setS m (IntKind.i64.wrap (1 + (modS (l.getD i 0) 1048576).tmod 3)) (IntKind.i64.wrap (1 + (IntKind.i64.wrap ((modS (l.getD i 0) 1048576).tdiv 3)).tmod kc)) ((IntKind.i64.wrap ((modS (l.getD i 0) 1048576).tdiv 24)).tmod 4) = (m', 0) := by
      rw [hme, ← hm2, w1 ((numS (l.getD i 0)).tdiv 3) hn1 (by omega), w1 ((numS (l.getD i 0)).tdiv 24) hn3 (by omega), w1 _ (by omega) (by omega), w1 _ (by omega) (by have := t2.2; have := (check0 hm1).2.1; omega)]
      exact Prod.ext hm' hst.2.2
    refine AM.pin 7 0 rfl ?_ ?_
    · (simp only [sxs, sxb, and_self, and_true, true_and, implies_true, imp_self, bne_eq_false_iff_eq, Nat.zero_add, Nat.le_refl, Int.toNat_natCast, Int.ofNat_lt, Int.natCast_nonneg, decide_eq_true_eq, decide_eq_false_iff_not, bne_iff_ne, ne_eq]; try dsimp only [Kd.T, Kds.T])
      exact congrArg (·.2) hse
    rw [hm'] at hst
    refine AM.imp2 (by cbv) (by cbv) ?_ ?_ (ih (i + 1, m') ⟨by simp only; omega, by simp only; omega, hst.1, hst.2.1.trans hm2, by simp only; rw [List.take_add_one, List.foldl_append, hm3, List.getElem?_eq_getElem hi3, ← hm', List.getD_eq_getElem?_getD, List.getElem?_eq_getElem hi3]; rfl⟩ (by simp only; omega))
    · (simp only [sxs, sxb, and_self, and_true, true_and, implies_true, imp_self, bne_eq_false_iff_eq, Nat.zero_add, Nat.le_refl, Int.toNat_natCast, Int.ofNat_lt, Int.natCast_nonneg, decide_eq_true_eq, decide_eq_false_iff_not, bne_iff_ne, ne_eq]; try dsimp only [Kd.T, Kds.T])
      rw [w64s (by omega)]
    · (simp only [sxs, sxb, and_self, and_true, true_and, implies_true, imp_self, bne_eq_false_iff_eq, Nat.zero_add, Nat.le_refl, Int.toNat_natCast, Int.ofNat_lt, Int.natCast_nonneg, decide_eq_true_eq, decide_eq_false_iff_not, bne_iff_ne, ne_eq]; try dsimp only [Kd.T, Kds.T])
      exact ⟨congrArg (·.1.1) hse, congrArg (·.1.2.1.1) hse, congrArg (·.1.2.1.2.1) hse, congrArg (·.1.2.1.2.2.1) hse⟩
  · have hme : m = madeN c l := by
      rw [← hm3]
      unfold madeN
      rw [hkc, hm0]
      congr 1
      rcases Nat.lt_or_ge i l.length with h1 | h1
      · have : i = 40 := by
          rcases Nat.lt_or_ge i 40 with h2 | h2
          · have := h ⟨by omega, by omega⟩
            cases this
          · omega
        rw [this]
      · rw [List.take_of_length_le h1, List.take_of_length_le (by omega)]
    clear ih
    refine AM.run2 hG 100 (by cbv) ?_ ?_
    · (simp only [sxs, sxb, and_self, and_true, true_and, implies_true, imp_self, bne_eq_false_iff_eq, Nat.zero_add, Nat.le_refl, Int.toNat_natCast, Int.ofNat_lt, Int.natCast_nonneg, decide_eq_true_eq, decide_eq_false_iff_not, bne_iff_ne, ne_eq]; try dsimp only [Kd.T, Kds.T])
    refine AM.ret2 hG (by cbv) (by (simp only [sxs, sxb, and_self, and_true, true_and, implies_true, imp_self, bne_eq_false_iff_eq, Nat.zero_add, Nat.le_refl, Int.toNat_natCast, Int.ofNat_lt, Int.natCast_nonneg, decide_eq_true_eq, decide_eq_false_iff_not, bne_iff_ne, ne_eq]; try dsimp only [Kd.T, Kds.T])) (hQ _ _ (FinRo.of (by cbv) (by cbv) ?_ ?_))
    · (simp only [sxs, sxb, and_self, and_true, true_and, implies_true, imp_self, bne_eq_false_iff_eq, Nat.zero_add, Nat.le_refl, Int.toNat_natCast, Int.ofNat_lt, Int.natCast_nonneg, decide_eq_true_eq, decide_eq_false_iff_not, bne_iff_ne, ne_eq]; try dsimp only [Kd.T, Kds.T])
    try (simp only [sxs, sxb, and_self, and_true, true_and, implies_true, imp_self, bne_eq_false_iff_eq, Nat.zero_add, Nat.le_refl, Int.toNat_natCast, Int.ofNat_lt, Int.natCast_nonneg, decide_eq_true_eq, decide_eq_false_iff_not, bne_iff_ne, ne_eq]; try dsimp only [Kd.T, Kds.T])
    rw [← hme]
    exact ⟨⟨rfl, rfl, rfl, rfl⟩, hm1, hm2⟩
end Go.Sx.Ytengkdmlnnehgaa

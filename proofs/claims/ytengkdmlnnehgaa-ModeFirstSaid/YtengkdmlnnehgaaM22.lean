/- Modes: settings. -/
import Derived.Test.YtengkdmlnnehgaaM21
namespace Go.Sx.Ytengkdmlnnehgaa
open Go Go.Sx Go.Proofs
set_option linter.unusedVariables false
set_option linter.unusedSimpArgs false
set_option maxRecDepth 100000

def appM (m : Modes) (d c n : Int) : Modes := putL m d ((listOf m d).set (c - 1).toNat n)
structure Fits (k d c n : Int) : Prop where
  d : 1 ≤ d ∧ d ≤ 3
  c : 1 ≤ c ∧ c ≤ k
  n : 0 ≤ n ∧ n ≤ 3
theorem app_set {m : Modes} {k d c n : Int} (h : checkS m = 0) (hk : m.1 = k) (hf : Fits k d c n) : setS m d c n = (appM m d c n, 0) := set_ok h hf.d (by rw [hk]; exact hf.c) hf.n
theorem app_ok {m : Modes} {k d c n : Int} (h : checkS m = 0) (hk : m.1 = k) (hf : Fits k d c n) : checkS (appM m d c n) = 0 ∧ (appM m d c n).1 = k := by
  have := put_ok (i := (c - 1).toNat) (dom := d) h (valid_of hf.n)
  exact ⟨this.1, this.2.trans hk⟩
theorem app_comm {m : Modes} {k d c n p q x : Int} (hs : Fits k d c n) (ht : Fits k p q x) (hne : d ≠ p ∨ c ≠ q) : appM (appM m d c n) p q x = appM (appM m p q x) d c n := by
  obtain ⟨c0, ⟨a, b, e, u⟩, u1⟩ := m
  have hc : d = p → c.toNat - 1 ≠ q.toNat - 1 := by
    intro h
    have := hs.c.1
    have := ht.c.1
    omega
  rcases (show d = 1 ∨ d = 2 ∨ d = 3 by have := hs.d; omega) with rfl | rfl | rfl <;> rcases (show p = 1 ∨ p = 2 ∨ p = 3 by have := ht.d; omega) with rfl | rfl | rfl
  all_goals simp [appM, putL, listOf]
  all_goals exact List.set_comm _ _ (hc rfl)
theorem len_of {m : Modes} (h : checkS m = 0) {d : Int} : ((listOf m d).length : Int) = m.1 := by
  obtain ⟨_, _, ⟨h8, h9, h10⟩, _⟩ := check0 h
  unfold listOf
  repeat' split
  all_goals assumption
theorem get_ok {m : Modes} {d c : Int} (h : checkS m = 0) (h1 : 1 ≤ d ∧ d ≤ 3) (h2 : 1 ≤ c ∧ c ≤ m.1) : getS m d c = ((listOf m d).getD (c - 1).toNat 0, 0) := by
  unfold getS
  rw [if_pos (at_ok h h1 h2)]
theorem get_app {m : Modes} {k d c n i j : Int} (h : checkS m = 0) (hk : m.1 = k) (hs : Fits k d c n) (hi : 1 ≤ i ∧ i ≤ 3) (hj : 1 ≤ j ∧ j ≤ k) :
    (listOf (appM m d c n) i).getD (j - 1).toNat 0 = if i = d ∧ j = c then n else (listOf m i).getD (j - 1).toNat 0 := by
  have hl := len_of h (d := d)
  have hcl : (c - 1).toNat < (listOf m d).length := by have := hs.c; omega
  by_cases hd : i = d
  · subst hd
    have e : listOf (appM m i c n) i = (listOf m i).set (c - 1).toNat n := by
      rcases (show i = 1 ∨ i = 2 ∨ i = 3 by omega) with rfl | rfl | rfl <;> simp [appM, putL, listOf]
    rw [e, List.getD_eq_getElem?_getD, List.getElem?_set]
    by_cases hc : j = c
    · subst hc
      rw [if_pos rfl, if_pos hcl, if_pos ⟨rfl, rfl⟩]
      rfl
    · have := hs.c
      rw [if_neg (by omega), if_neg (fun hh => hc hh.2), List.getD_eq_getElem?_getD]
  · rw [if_neg (fun hh => hd hh.1)]
    have e : listOf (appM m d c n) i = listOf m i := by
      rcases (show i = 1 ∨ i = 2 ∨ i = 3 by omega) with rfl | rfl | rfl <;> rcases (show d = 1 ∨ d = 2 ∨ d = 3 by have := hs.d; omega) with rfl | rfl | rfl <;> simp_all [appM, putL, listOf]
    rw [e]
theorem app_same {m : Modes} {d c : Int} (h : checkS m = 0) (h1 : 1 ≤ d ∧ d ≤ 3) (h2 : 1 ≤ c ∧ c ≤ m.1) : appM m d c ((listOf m d).getD (c - 1).toNat 0) = m := by
  have hl := len_of h (d := d)
  have hcl : (c - 1).toNat < (listOf m d).length := by omega
  have e : (listOf m d).set (c - 1).toNat ((listOf m d).getD (c - 1).toNat 0) = listOf m d := by
    rw [List.getD_eq_getElem?_getD, List.getElem?_eq_getElem hcl, Option.getD_some, List.set_getElem_self]
  unfold appM
  rw [e]
  obtain ⟨c0, ⟨a, b, e, u⟩, u1⟩ := m
  rcases (show d = 1 ∨ d = 2 ∨ d = 3 by omega) with rfl | rfl | rfl <;> simp [putL, listOf]
theorem kind_of {m : Modes} {d c : Int} (h : checkS m = 0) (h1 : 1 ≤ d ∧ d ≤ 3) (h2 : 1 ≤ c ∧ c ≤ m.1) : 0 ≤ (listOf m d).getD (c - 1).toNat 0 ∧ (listOf m d).getD (c - 1).toNat 0 ≤ 3 := by
  have hl := len_of h (d := d)
  obtain ⟨_, _, _, hk⟩ := check0 h
  have hcl : (c - 1).toNat < (listOf m d).length := by omega
  have ha : (listOf m d).all validS = true := by
    simp only [kindsOk, Bool.and_eq_true] at hk
    unfold listOf
    repeat' split
    · exact hk.1.1
    · exact hk.1.2
    · exact hk.2
  rw [List.all_eq_true] at ha
  have := ha _ (List.getElem_mem hcl)
  rw [List.getD_eq_getElem?_getD, List.getElem?_eq_getElem hcl, Option.getD_some]
  simpa [validS] using this

theorem fits_num {k n : Int} (h0 : 0 ≤ n) (hk : 1 ≤ k) : Fits k (1 + n.tmod 3) (1 + (n.tdiv 3).tmod k) ((n.tdiv 24).tmod 4) :=
  ⟨(trio h0 hk).1, (trio h0 hk).2.1, (trio h0 hk).2.2⟩
theorem wraps {k n : Int} (h0 : 0 ≤ n ∧ n < 1048576) (hk : 1 ≤ k ∧ k ≤ 8) : IntKind.i64.wrap (1 + n.tmod 3) = 1 + n.tmod 3 ∧ IntKind.i64.wrap (1 + (IntKind.i64.wrap (n.tdiv 3)).tmod k) = 1 + (n.tdiv 3).tmod k ∧ IntKind.i64.wrap (n.tdiv 24) = n.tdiv 24 := by
  have hf := fits_num (k := k) h0.1 hk.1
  have h1 : 0 ≤ n.tdiv 3 := Int.tdiv_nonneg h0.1 (by omega)
  have h2 : n.tdiv 3 ≤ n := Int.tdiv_le_self 3 h0.1
  have h3 : 0 ≤ n.tdiv 24 := Int.tdiv_nonneg h0.1 (by omega)
  have h4 : n.tdiv 24 ≤ n := Int.tdiv_le_self 24 h0.1
  have h5 := hf.d
  have h6 := hf.c
  refine ⟨w64 (by omega) (by omega), ?_, w64 (by omega) (by omega)⟩
  rw [w64 (n := n.tdiv 3) (by omega) (by omega), w64 (by omega) (by omega)]

set_option maxHeartbeats 2000000 in
theorem law7 : FnOk Try.prog 7 (sigSpec [I64, IntsK, I64, I64] [.bool] (fun _ => (true, ())) (Kds.wf [I64, IntsK, I64, I64])) := by
  refine fn_of (rs := [.tmp 8]) (env [(6, S6), (37, S37), (38, S38), (26, S26), (21, S21), (24, S24)] ⟨fn6, fn37, fn38, fn26, fn21, fn24, trivial⟩) Try.func7 (by kernel_rfl) rfl rfl Try.ntmps7 ?_
  rintro ⟨(cs : Int), (l : List Int), (x : Int), (y : Int), u⟩ hp G hG hQ
  clear hp
  obtain ⟨hm1, hm2⟩ := made_ok cs l
  have hcb := cars_bd cs
  obtain ⟨k, hk⟩ : ∃ k, carsS cs = k := ⟨_, rfl⟩
  rw [hk] at hm2 hcb
  obtain ⟨m, hm⟩ : ∃ m, madeN cs l = m := ⟨_, rfl⟩
  rw [hm] at hm1 hm2
  refine AM.runTo2 hG 43 100 (by cbv) (by (simp only [sxs, sxb, and_self, and_true, true_and, implies_true, imp_self, bne_eq_false_iff_eq, Nat.zero_add, Nat.le_refl, Int.toNat_natCast, Int.ofNat_lt, Int.natCast_nonneg, decide_eq_true_eq, decide_eq_false_iff_not, bne_iff_ne, ne_eq]; try dsimp only [Kd.T, Kds.T])) ?_
  refine AM.sure 9 true rfl rfl ?_
  refine AM.sure 11 true rfl rfl ?_
  refine AM.imp2 (fr' := frame 229 [(2, .int .i64 (.t fun _ => x)), (3, .int .i64 (.t fun _ => y)), (8, .bool (.l false)), (9, .bool (.l true)), (10, .ptr 0 0), (11, .bool (.l true))]) (h' := [boxM m]) (by cbv) (by cbv) ?_ ?_ ?_
  · (simp only [sxs, sxb, and_self, and_true, true_and, implies_true, imp_self, bne_eq_false_iff_eq, Nat.zero_add, Nat.le_refl, Int.toNat_natCast, Int.ofNat_lt, Int.natCast_nonneg, decide_eq_true_eq, decide_eq_false_iff_not, bne_iff_ne, ne_eq]; try dsimp only [Kd.T, Kds.T])
    try trivial
  · (simp only [sxs, sxb, and_self, and_true, true_and, implies_true, imp_self, bne_eq_false_iff_eq, Nat.zero_add, Nat.le_refl, Int.toNat_natCast, Int.ofNat_lt, Int.natCast_nonneg, decide_eq_true_eq, decide_eq_false_iff_not, bne_iff_ne, ne_eq, hm]; try dsimp only [Kd.T, Kds.T])
    try trivial
  refine AM.run2 hG 100 (by cbv) (by (simp only [sxs, sxb, and_self, and_true, true_and, implies_true, imp_self, bne_eq_false_iff_eq, Nat.zero_add, Nat.le_refl, Int.toNat_natCast, Int.ofNat_lt, Int.natCast_nonneg, decide_eq_true_eq, decide_eq_false_iff_not, bne_iff_ne, ne_eq]; try dsimp only [Kd.T, Kds.T])) ?_
  refine AM.sure 49 false rfl ?_ ?_
  · (simp only [sxs, sxb, and_self, and_true, true_and, implies_true, imp_self, bne_eq_false_iff_eq, Nat.zero_add, Nat.le_refl, Int.toNat_natCast, Int.ofNat_lt, Int.natCast_nonneg, decide_eq_true_eq, decide_eq_false_iff_not, bne_iff_ne, ne_eq]; try dsimp only [Kd.T, Kds.T])
    omega
  refine AM.runTo2 hG 79 400 (by cbv) ?_ ?_
  · (simp only [sxs, sxb, and_self, and_true, true_and, implies_true, imp_self, bne_eq_false_iff_eq, Nat.zero_add, Nat.le_refl, Int.toNat_natCast, Int.ofNat_lt, Int.natCast_nonneg, decide_eq_true_eq, decide_eq_false_iff_not, bne_iff_ne, ne_eq]; try dsimp only [Kd.T, Kds.T])
    refine ⟨by decide, by decide, ?_, by decide, by decide, by decide, by decide, ?_, by decide, by decide, by decide⟩ <;> omega
  have hx := num_bd x
  have hy := num_bd y
  obtain ⟨x1, x2, x3⟩ := wraps (k := k) hx hcb
  obtain ⟨y1, y2, y3⟩ := wraps (k := k) hy hcb
  have fx := fits_num (k := k) hx.1 hcb.1
  have fy := fits_num (k := k) hy.1 hcb.1
  have ex : modS x 1048576 = numS x := rfl
  have ey : modS y 1048576 = numS y := rfl
  obtain ⟨d, hd⟩ : ∃ d, 1 + (numS x).tmod 3 = d := ⟨_, rfl⟩
  rw [hd] at x1 fx
  obtain ⟨c, hc⟩ : ∃ c, 1 + ((numS x).tdiv 3).tmod k = c := ⟨_, rfl⟩
  rw [hc] at x2 fx
  obtain ⟨p, hp⟩ : ∃ p, 1 + (numS y).tmod 3 = p := ⟨_, rfl⟩
  rw [hp] at y1 fy
  obtain ⟨q, hq⟩ : ∃ q, 1 + ((numS y).tdiv 3).tmod k = q := ⟨_, rfl⟩
  rw [hq] at y2 fy
  obtain ⟨n, hn⟩ : ∃ n, ((numS x).tdiv 24).tmod 4 = n := ⟨_, rfl⟩
  obtain ⟨z, hz⟩ : ∃ z, ((numS y).tdiv 24).tmod 4 = z := ⟨_, rfl⟩
  rw [hn] at fx
  rw [hz] at fy
  have sa := app_set hm1 hm2 fx
  have oa := app_ok hm1 hm2 fx
  have sb := app_set oa.1 oa.2 fy
  have ob := app_ok oa.1 oa.2 fy
  have su := app_set hm1 hm2 fy
  have ou := app_ok hm1 hm2 fy
  have sv := app_set ou.1 ou.2 fx
  have ov := app_ok ou.1 ou.2 fx
  have hcomm := app_comm (m := m) fx fy
  have gx := fun i j (hi : 1 ≤ i ∧ i ≤ 3) (hj : 1 ≤ j ∧ j ≤ k) => get_app (i := i) (j := j) hm1 hm2 fx hi hj
  obtain ⟨ma, hma⟩ : ∃ ma, appM m d c n = ma := ⟨_, rfl⟩
  rw [hma] at sa oa sb ob hcomm gx
  obtain ⟨mb, hmb⟩ : ∃ mb, appM ma p q z = mb := ⟨_, rfl⟩
  rw [hmb] at sb ob hcomm
  obtain ⟨mu, hmu⟩ : ∃ mu, appM m p q z = mu := ⟨_, rfl⟩
  rw [hmu] at su ou sv ov hcomm
  obtain ⟨mv, hmv⟩ : ∃ mv, appM mu d c n = mv := ⟨_, rfl⟩
  rw [hmv] at sv ov hcomm
  have sa' : setS (k, (m.2.1.1, m.2.1.2.1, m.2.1.2.2.1, ()), ()) d c n = (ma, 0) := by rw [← hm2]; exact sa
  have sb' : setS (k, (ma.2.1.1, ma.2.1.2.1, ma.2.1.2.2.1, ()), ()) p q z = (mb, 0) := by rw [← oa.2]; exact sb
  have su' : setS (k, (m.2.1.1, m.2.1.2.1, m.2.1.2.2.1, ()), ()) p q z = (mu, 0) := by rw [← hm2]; exact su
  have sv' : setS (k, (mu.2.1.1, mu.2.1.2.1, mu.2.1.2.2.1, ()), ()) d c n = (mv, 0) := by rw [← ou.2]; exact sv
  refine AM.imp2 (fr' := frame 229 [(8, .bool (.l false)), (9, .bool (.l true)), (10, .ptr 0 0), (12, .int .i64 (.t fun _ => d)), (13, .int .i64 (.t fun _ => c)), (14, .int .i64 (.t fun _ => n)), (15, .int .i64 (.t fun _ => p)), (16, .int .i64 (.t fun _ => q)), (17, .int .i64 (.t fun _ => z))]) (h' := [boxM m]) (by cbv) (by cbv) ?_ ?_ ?_
  · (simp only [sxs, sxb, and_self, and_true, true_and, implies_true, imp_self, bne_eq_false_iff_eq, Nat.zero_add, Nat.le_refl, Int.toNat_natCast, Int.ofNat_lt, Int.natCast_nonneg, decide_eq_true_eq, decide_eq_false_iff_not, bne_iff_ne, ne_eq, ex, ey, hm2, hd, hp, x1, x2, x3, hn, y1, y2, y3, hz]; try dsimp only [Kd.T, Kds.T])
    try trivial
  · (simp only [sxs, sxb, and_self, and_true, true_and, implies_true, imp_self, bne_eq_false_iff_eq, Nat.zero_add, Nat.le_refl, Int.toNat_natCast, Int.ofNat_lt, Int.natCast_nonneg, decide_eq_true_eq, decide_eq_false_iff_not, bne_iff_ne, ne_eq, ex, ey, hm2, hd, hp, x1, x2, x3, hn, y1, y2, y3, hz]; try dsimp only [Kd.T, Kds.T])
    try trivial
  refine AM.runTo2 hG 87 100 (by cbv) (by (simp only [sxs, sxb, and_self, and_true, true_and, implies_true, imp_self, bne_eq_false_iff_eq, Nat.zero_add, Nat.le_refl, Int.toNat_natCast, Int.ofNat_lt, Int.natCast_nonneg, decide_eq_true_eq, decide_eq_false_iff_not, bne_iff_ne, ne_eq]; try dsimp only [Kd.T, Kds.T])) ?_
  refine AM.pin 19 0 rfl ?_ ?_
  · (simp only [sxs, sxb, and_self, and_true, true_and, implies_true, imp_self, bne_eq_false_iff_eq, Nat.zero_add, Nat.le_refl, Int.toNat_natCast, Int.ofNat_lt, Int.natCast_nonneg, decide_eq_true_eq, decide_eq_false_iff_not, bne_iff_ne, ne_eq, hm2, oa.2, ob.2, ou.2, ov.2]; try dsimp only [Kd.T, Kds.T])
    rw [sa']
  refine AM.imp2 (fr' := frame 229 [(8, .bool (.l false)), (9, .bool (.l true)), (10, .ptr 0 0), (12, .int .i64 (.t fun _ => d)), (13, .int .i64 (.t fun _ => c)), (14, .int .i64 (.t fun _ => n)), (15, .int .i64 (.t fun _ => p)), (16, .int .i64 (.t fun _ => q)), (17, .int .i64 (.t fun _ => z)), (18, .ptr 1 0), (19, .int .i64 (.l 0))]) (h' := [boxM m, boxM ma]) (by cbv) (by cbv) ?_ ?_ ?_
  · (simp only [sxs, sxb, and_self, and_true, true_and, implies_true, imp_self, bne_eq_false_iff_eq, Nat.zero_add, Nat.le_refl, Int.toNat_natCast, Int.ofNat_lt, Int.natCast_nonneg, decide_eq_true_eq, decide_eq_false_iff_not, bne_iff_ne, ne_eq, hm2, oa.2, ob.2, ou.2, ov.2, sa']; try dsimp only [Kd.T, Kds.T])
    try trivial
  · (simp only [sxs, sxb, and_self, and_true, true_and, implies_true, imp_self, bne_eq_false_iff_eq, Nat.zero_add, Nat.le_refl, Int.toNat_natCast, Int.ofNat_lt, Int.natCast_nonneg, decide_eq_true_eq, decide_eq_false_iff_not, bne_iff_ne, ne_eq, hm2, oa.2, ob.2, ou.2, ov.2, sa']; try dsimp only [Kd.T, Kds.T])
    try trivial
  refine AM.runTo2 hG 95 100 (by cbv) (by (simp only [sxs, sxb, and_self, and_true, true_and, implies_true, imp_self, bne_eq_false_iff_eq, Nat.zero_add, Nat.le_refl, Int.toNat_natCast, Int.ofNat_lt, Int.natCast_nonneg, decide_eq_true_eq, decide_eq_false_iff_not, bne_iff_ne, ne_eq]; try dsimp only [Kd.T, Kds.T])) ?_
  refine AM.pin 21 0 rfl ?_ ?_
  · (simp only [sxs, sxb, and_self, and_true, true_and, implies_true, imp_self, bne_eq_false_iff_eq, Nat.zero_add, Nat.le_refl, Int.toNat_natCast, Int.ofNat_lt, Int.natCast_nonneg, decide_eq_true_eq, decide_eq_false_iff_not, bne_iff_ne, ne_eq, hm2, oa.2, ob.2, ou.2, ov.2]; try dsimp only [Kd.T, Kds.T])
    rw [sb']
  refine AM.imp2 (fr' := frame 229 [(8, .bool (.l false)), (9, .bool (.l true)), (10, .ptr 0 0), (12, .int .i64 (.t fun _ => d)), (13, .int .i64 (.t fun _ => c)), (14, .int .i64 (.t fun _ => n)), (15, .int .i64 (.t fun _ => p)), (16, .int .i64 (.t fun _ => q)), (17, .int .i64 (.t fun _ => z)), (18, .ptr 1 0), (19, .int .i64 (.l 0)), (20, .ptr 2 0), (21, .int .i64 (.l 0))]) (h' := [boxM m, boxM ma, boxM mb]) (by cbv) (by cbv) ?_ ?_ ?_
  · (simp only [sxs, sxb, and_self, and_true, true_and, implies_true, imp_self, bne_eq_false_iff_eq, Nat.zero_add, Nat.le_refl, Int.toNat_natCast, Int.ofNat_lt, Int.natCast_nonneg, decide_eq_true_eq, decide_eq_false_iff_not, bne_iff_ne, ne_eq, hm2, oa.2, ob.2, ou.2, ov.2, sb']; try dsimp only [Kd.T, Kds.T])
    try trivial
  · (simp only [sxs, sxb, and_self, and_true, true_and, implies_true, imp_self, bne_eq_false_iff_eq, Nat.zero_add, Nat.le_refl, Int.toNat_natCast, Int.ofNat_lt, Int.natCast_nonneg, decide_eq_true_eq, decide_eq_false_iff_not, bne_iff_ne, ne_eq, hm2, oa.2, ob.2, ou.2, ov.2, sb']; try dsimp only [Kd.T, Kds.T])
    try trivial
  refine AM.runTo2 hG 103 100 (by cbv) (by (simp only [sxs, sxb, and_self, and_true, true_and, implies_true, imp_self, bne_eq_false_iff_eq, Nat.zero_add, Nat.le_refl, Int.toNat_natCast, Int.ofNat_lt, Int.natCast_nonneg, decide_eq_true_eq, decide_eq_false_iff_not, bne_iff_ne, ne_eq]; try dsimp only [Kd.T, Kds.T])) ?_
  refine AM.pin 23 0 rfl ?_ ?_
  · (simp only [sxs, sxb, and_self, and_true, true_and, implies_true, imp_self, bne_eq_false_iff_eq, Nat.zero_add, Nat.le_refl, Int.toNat_natCast, Int.ofNat_lt, Int.natCast_nonneg, decide_eq_true_eq, decide_eq_false_iff_not, bne_iff_ne, ne_eq, hm2, oa.2, ob.2, ou.2, ov.2]; try dsimp only [Kd.T, Kds.T])
    rw [su']
  refine AM.imp2 (fr' := frame 229 [(8, .bool (.l false)), (9, .bool (.l true)), (10, .ptr 0 0), (12, .int .i64 (.t fun _ => d)), (13, .int .i64 (.t fun _ => c)), (14, .int .i64 (.t fun _ => n)), (15, .int .i64 (.t fun _ => p)), (16, .int .i64 (.t fun _ => q)), (17, .int .i64 (.t fun _ => z)), (18, .ptr 1 0), (19, .int .i64 (.l 0)), (20, .ptr 2 0), (21, .int .i64 (.l 0)), (22, .ptr 3 0), (23, .int .i64 (.l 0))]) (h' := [boxM m, boxM ma, boxM mb, boxM mu]) (by cbv) (by cbv) ?_ ?_ ?_
  · (simp only [sxs, sxb, and_self, and_true, true_and, implies_true, imp_self, bne_eq_false_iff_eq, Nat.zero_add, Nat.le_refl, Int.toNat_natCast, Int.ofNat_lt, Int.natCast_nonneg, decide_eq_true_eq, decide_eq_false_iff_not, bne_iff_ne, ne_eq, hm2, oa.2, ob.2, ou.2, ov.2, su']; try dsimp only [Kd.T, Kds.T])
    try trivial
  · (simp only [sxs, sxb, and_self, and_true, true_and, implies_true, imp_self, bne_eq_false_iff_eq, Nat.zero_add, Nat.le_refl, Int.toNat_natCast, Int.ofNat_lt, Int.natCast_nonneg, decide_eq_true_eq, decide_eq_false_iff_not, bne_iff_ne, ne_eq, hm2, oa.2, ob.2, ou.2, ov.2, su']; try dsimp only [Kd.T, Kds.T])
    try trivial
  refine AM.runTo2 hG 110 100 (by cbv) (by (simp only [sxs, sxb, and_self, and_true, true_and, implies_true, imp_self, bne_eq_false_iff_eq, Nat.zero_add, Nat.le_refl, Int.toNat_natCast, Int.ofNat_lt, Int.natCast_nonneg, decide_eq_true_eq, decide_eq_false_iff_not, bne_iff_ne, ne_eq]; try dsimp only [Kd.T, Kds.T])) ?_
  refine AM.pin 25 0 rfl ?_ ?_
  · (simp only [sxs, sxb, and_self, and_true, true_and, implies_true, imp_self, bne_eq_false_iff_eq, Nat.zero_add, Nat.le_refl, Int.toNat_natCast, Int.ofNat_lt, Int.natCast_nonneg, decide_eq_true_eq, decide_eq_false_iff_not, bne_iff_ne, ne_eq, hm2, oa.2, ob.2, ou.2, ov.2]; try dsimp only [Kd.T, Kds.T])
    rw [sv']
  refine AM.imp2 (fr' := frame 229 [(8, .bool (.l false)), (9, .bool (.l true)), (10, .ptr 0 0), (12, .int .i64 (.t fun _ => d)), (13, .int .i64 (.t fun _ => c)), (14, .int .i64 (.t fun _ => n)), (15, .int .i64 (.t fun _ => p)), (16, .int .i64 (.t fun _ => q)), (17, .int .i64 (.t fun _ => z)), (18, .ptr 1 0), (19, .int .i64 (.l 0)), (20, .ptr 2 0), (21, .int .i64 (.l 0)), (22, .ptr 3 0), (23, .int .i64 (.l 0)), (24, .ptr 4 0), (25, .int .i64 (.l 0))]) (h' := [boxM m, boxM ma, boxM mb, boxM mu, boxM mv]) (by cbv) (by cbv) ?_ ?_ ?_
  · (simp only [sxs, sxb, and_self, and_true, true_and, implies_true, imp_self, bne_eq_false_iff_eq, Nat.zero_add, Nat.le_refl, Int.toNat_natCast, Int.ofNat_lt, Int.natCast_nonneg, decide_eq_true_eq, decide_eq_false_iff_not, bne_iff_ne, ne_eq, hm2, oa.2, ob.2, ou.2, ov.2, sv']; try dsimp only [Kd.T, Kds.T])
    try trivial
  · (simp only [sxs, sxb, and_self, and_true, true_and, implies_true, imp_self, bne_eq_false_iff_eq, Nat.zero_add, Nat.le_refl, Int.toNat_natCast, Int.ofNat_lt, Int.natCast_nonneg, decide_eq_true_eq, decide_eq_false_iff_not, bne_iff_ne, ne_eq, hm2, oa.2, ob.2, ou.2, ov.2, sv']; try dsimp only [Kd.T, Kds.T])
    try trivial
  refine AM.run2 hG 100 (by cbv) ?_ ?_
  · (simp only [sxs, sxb, and_self, and_true, true_and, implies_true, imp_self, bne_eq_false_iff_eq, Nat.zero_add, Nat.le_refl, Int.toNat_natCast, Int.ofNat_lt, Int.natCast_nonneg, decide_eq_true_eq, decide_eq_false_iff_not, bne_iff_ne, ne_eq]; try dsimp only [Kd.T, Kds.T])
    exact fun _ => ⟨check_small ob.1, check_small ov.1⟩
  refine AM.sure 139 false rfl ?_ ?_
  · (simp only [sxs, sxb, and_self, and_true, true_and, implies_true, imp_self, bne_eq_false_iff_eq, Nat.zero_add, Nat.le_refl, Int.toNat_natCast, Int.ofNat_lt, Int.natCast_nonneg, decide_eq_true_eq, decide_eq_false_iff_not, bne_iff_ne, ne_eq]; try dsimp only [Kd.T, Kds.T])
    have e : (d ≠ p ∨ c ≠ q) → mb = mv := hcomm
    by_cases e1 : d = p <;> by_cases e2 : c = q <;> simp_all [neI]
  refine AM.run2 hG 100 (by cbv) (by (simp only [sxs, sxb, and_self, and_true, true_and, implies_true, imp_self, bne_eq_false_iff_eq, Nat.zero_add, Nat.le_refl, Int.toNat_natCast, Int.ofNat_lt, Int.natCast_nonneg, decide_eq_true_eq, decide_eq_false_iff_not, bne_iff_ne, ne_eq]; try dsimp only [Kd.T, Kds.T])) ?_
  refine AM.loopI (fun i : Nat => (frame 229 [(8, .bool (.l false)), (9, .bool (.l true)), (10, .ptr 0 0), (12, .int .i64 (.t fun _ => d)), (13, .int .i64 (.t fun _ => c)), (14, .int .i64 (.t fun _ => n)), (18, .ptr 1 0), (26, .int .i64 (.t fun _ => nI i))], [boxM m, boxM ma, boxM mb, boxM mu, boxM mv])) (fun i => 1 ≤ i ∧ i ≤ 4) (fun i => 4 - i) 1 (by omega) ?_ ?_ ?_
  · cbv; (simp only [sxs, sxb, and_self, and_true, true_and, implies_true, imp_self, bne_eq_false_iff_eq, Nat.zero_add, Nat.le_refl, Int.toNat_natCast, Int.ofNat_lt, Int.natCast_nonneg, decide_eq_true_eq, decide_eq_false_iff_not, bne_iff_ne, ne_eq]; try dsimp only [Kd.T, Kds.T]); first | rfl | trivial
  · cbv; (simp only [sxs, sxb, and_self, and_true, true_and, implies_true, imp_self, bne_eq_false_iff_eq, Nat.zero_add, Nat.le_refl, Int.toNat_natCast, Int.ofNat_lt, Int.natCast_nonneg, decide_eq_true_eq, decide_eq_false_iff_not, bne_iff_ne, ne_eq]; try dsimp only [Kd.T, Kds.T])
  rintro i ⟨hi1, hi2⟩ ih
  refine AM.run2 hG 100 (by cbv) (by (simp only [sxs, sxb, and_self, and_true, true_and, implies_true, imp_self, bne_eq_false_iff_eq, Nat.zero_add, Nat.le_refl, Int.toNat_natCast, Int.ofNat_lt, Int.natCast_nonneg, decide_eq_true_eq, decide_eq_false_iff_not, bne_iff_ne, ne_eq]; try dsimp only [Kd.T, Kds.T])) ?_
  refine AM.case 141 rfl (fun hi3 => ?_) (fun hi3 => ?_) <;> (simp only [sxs, sxb, and_self, and_true, true_and, implies_true, imp_self, bne_eq_false_iff_eq, Nat.zero_add, Nat.le_refl, Int.toNat_natCast, Int.ofNat_lt, Int.natCast_nonneg, decide_eq_true_eq, decide_eq_false_iff_not, bne_iff_ne, ne_eq] at hi3; try dsimp only [Kd.T, Kds.T] at hi3)
  · refine AM.run2 hG 100 (by cbv) (by (simp only [sxs, sxb, and_self, and_true, true_and, implies_true, imp_self, bne_eq_false_iff_eq, Nat.zero_add, Nat.le_refl, Int.toNat_natCast, Int.ofNat_lt, Int.natCast_nonneg, decide_eq_true_eq, decide_eq_false_iff_not, bne_iff_ne, ne_eq]; try dsimp only [Kd.T, Kds.T])) ?_
    refine AM.loopI (fun j : Nat => (frame 229 [(8, .bool (.l false)), (9, .bool (.l true)), (10, .ptr 0 0), (12, .int .i64 (.t fun _ => d)), (13, .int .i64 (.t fun _ => c)), (14, .int .i64 (.t fun _ => n)), (18, .ptr 1 0), (26, .int .i64 (.t fun _ => nI i)), (27, .int .i64 (.t fun _ => nI j))], [boxM m, boxM ma, boxM mb, boxM mu, boxM mv])) (fun j => 1 ≤ j ∧ (j : Int) ≤ k + 1) (fun j => 20 - j) 1 (by omega) ?_ ?_ ?_
    · cbv; (simp only [sxs, sxb, and_self, and_true, true_and, implies_true, imp_self, bne_eq_false_iff_eq, Nat.zero_add, Nat.le_refl, Int.toNat_natCast, Int.ofNat_lt, Int.natCast_nonneg, decide_eq_true_eq, decide_eq_false_iff_not, bne_iff_ne, ne_eq]; try dsimp only [Kd.T, Kds.T]); first | rfl | trivial
    · cbv; (simp only [sxs, sxb, and_self, and_true, true_and, implies_true, imp_self, bne_eq_false_iff_eq, Nat.zero_add, Nat.le_refl, Int.toNat_natCast, Int.ofNat_lt, Int.natCast_nonneg, decide_eq_true_eq, decide_eq_false_iff_not, bne_iff_ne, ne_eq]; try dsimp only [Kd.T, Kds.T])
    rintro j ⟨hj1, hj2⟩ ih2
    refine AM.run2 hG 100 (by cbv) (by (simp only [sxs, sxb, and_self, and_true, true_and, implies_true, imp_self, bne_eq_false_iff_eq, Nat.zero_add, Nat.le_refl, Int.toNat_natCast, Int.ofNat_lt, Int.natCast_nonneg, decide_eq_true_eq, decide_eq_false_iff_not, bne_iff_ne, ne_eq]; try dsimp only [Kd.T, Kds.T])) ?_
    refine AM.case 147 rfl (fun hj3 => ?_) (fun hj3 => ?_) <;> (simp only [sxs, sxb, and_self, and_true, true_and, implies_true, imp_self, bne_eq_false_iff_eq, Nat.zero_add, Nat.le_refl, Int.toNat_natCast, Int.ofNat_lt, Int.natCast_nonneg, decide_eq_true_eq, decide_eq_false_iff_not, bne_iff_ne, ne_eq, hm2] at hj3; try dsimp only [Kd.T, Kds.T] at hj3)
    · have hg0 := get_ok (d := (i : Int)) (c := (j : Int)) hm1 (by omega) (by omega)
      have hg1 := get_ok (d := (i : Int)) (c := (j : Int)) oa.1 (by omega) (by rw [oa.2]; omega)
      rw [gx i j (by omega) (by omega)] at hg1
      obtain ⟨g0, hge⟩ : ∃ g0, (listOf m i).getD ((j : Int) - 1).toNat 0 = g0 := ⟨_, rfl⟩
      rw [hge] at hg0 hg1
      have hg0' : getS (m.1, (m.2.1.1, m.2.1.2.1, m.2.1.2.2.1, ()), ()) i j = (g0, 0) := hg0
      have hg1' : getS (ma.1, (ma.2.1.1, ma.2.1.2.1, ma.2.1.2.2.1, ()), ()) i j = (if (i : Int) = d ∧ (j : Int) = c then n else g0, 0) := hg1
      refine AM.runTo2 hG 164 100 (by cbv) (by (simp only [sxs, sxb, and_self, and_true, true_and, implies_true, imp_self, bne_eq_false_iff_eq, Nat.zero_add, Nat.le_refl, Int.toNat_natCast, Int.ofNat_lt, Int.natCast_nonneg, decide_eq_true_eq, decide_eq_false_iff_not, bne_iff_ne, ne_eq]; try dsimp only [Kd.T, Kds.T])) ?_
      refine AM.pin 29 0 rfl (by (simp only [sxs, sxb, and_self, and_true, true_and, implies_true, imp_self, bne_eq_false_iff_eq, Nat.zero_add, Nat.le_refl, Int.toNat_natCast, Int.ofNat_lt, Int.natCast_nonneg, decide_eq_true_eq, decide_eq_false_iff_not, bne_iff_ne, ne_eq, hg0']; try dsimp only [Kd.T, Kds.T])) ?_
      refine AM.pin 31 0 rfl (by (simp only [sxs, sxb, and_self, and_true, true_and, implies_true, imp_self, bne_eq_false_iff_eq, Nat.zero_add, Nat.le_refl, Int.toNat_natCast, Int.ofNat_lt, Int.natCast_nonneg, decide_eq_true_eq, decide_eq_false_iff_not, bne_iff_ne, ne_eq, hg1']; try dsimp only [Kd.T, Kds.T])) ?_
      refine AM.runTo2 hG 186 100 (by cbv) (by (simp only [sxs, sxb, and_self, and_true, true_and, implies_true, imp_self, bne_eq_false_iff_eq, Nat.zero_add, Nat.le_refl, Int.toNat_natCast, Int.ofNat_lt, Int.natCast_nonneg, decide_eq_true_eq, decide_eq_false_iff_not, bne_iff_ne, ne_eq]; try dsimp only [Kd.T, Kds.T])) ?_
      refine AM.sure 185 false rfl ?_ ?_
      · (simp only [sxs, sxb, and_self, and_true, true_and, implies_true, imp_self, bne_eq_false_iff_eq, Nat.zero_add, Nat.le_refl, Int.toNat_natCast, Int.ofNat_lt, Int.natCast_nonneg, decide_eq_true_eq, decide_eq_false_iff_not, bne_iff_ne, ne_eq, hg1']; try dsimp only [Kd.T, Kds.T])
        by_cases e1 : (i : Int) = d <;> by_cases e2 : (j : Int) = c <;> simp_all [neI, eqI]
      refine AM.run2 hG 100 (by cbv) ?_ ?_
      · (simp only [sxs, sxb, and_self, and_true, true_and, implies_true, imp_self, bne_eq_false_iff_eq, Nat.zero_add, Nat.le_refl, Int.toNat_natCast, Int.ofNat_lt, Int.natCast_nonneg, decide_eq_true_eq, decide_eq_false_iff_not, bne_iff_ne, ne_eq]; try dsimp only [Kd.T, Kds.T])
      refine AM.sure 199 false rfl ?_ ?_
      · (simp only [sxs, sxb, and_self, and_true, true_and, implies_true, imp_self, bne_eq_false_iff_eq, Nat.zero_add, Nat.le_refl, Int.toNat_natCast, Int.ofNat_lt, Int.natCast_nonneg, decide_eq_true_eq, decide_eq_false_iff_not, bne_iff_ne, ne_eq, hg0', hg1']; try dsimp only [Kd.T, Kds.T])
        by_cases e1 : (i : Int) = d <;> by_cases e2 : (j : Int) = c <;> simp_all [neI, eqI]
      refine AM.run2 hG 100 (by cbv) (by (simp only [sxs, sxb, and_self, and_true, true_and, implies_true, imp_self, bne_eq_false_iff_eq, Nat.zero_add, Nat.le_refl, Int.toNat_natCast, Int.ofNat_lt, Int.natCast_nonneg, decide_eq_true_eq, decide_eq_false_iff_not, bne_iff_ne, ne_eq]; try dsimp only [Kd.T, Kds.T])) ?_
      refine AM.imp2 (by cbv) (by cbv) ?_ (by (simp only [sxs, sxb, and_self, and_true, true_and, implies_true, imp_self, bne_eq_false_iff_eq, Nat.zero_add, Nat.le_refl, Int.toNat_natCast, Int.ofNat_lt, Int.natCast_nonneg, decide_eq_true_eq, decide_eq_false_iff_not, bne_iff_ne, ne_eq]; try dsimp only [Kd.T, Kds.T])) (ih2 (j + 1) ⟨by omega, by omega⟩ (by omega))
      (simp only [sxs, sxb, and_self, and_true, true_and, implies_true, imp_self, bne_eq_false_iff_eq, Nat.zero_add, Nat.le_refl, Int.toNat_natCast, Int.ofNat_lt, Int.natCast_nonneg, decide_eq_true_eq, decide_eq_false_iff_not, bne_iff_ne, ne_eq]; try dsimp only [Kd.T, Kds.T])
      rw [w64s (by omega)]
    · refine AM.run2 hG 100 (by cbv) (by (simp only [sxs, sxb, and_self, and_true, true_and, implies_true, imp_self, bne_eq_false_iff_eq, Nat.zero_add, Nat.le_refl, Int.toNat_natCast, Int.ofNat_lt, Int.natCast_nonneg, decide_eq_true_eq, decide_eq_false_iff_not, bne_iff_ne, ne_eq]; try dsimp only [Kd.T, Kds.T])) ?_
      refine AM.imp2 (by cbv) (by cbv) ?_ (by (simp only [sxs, sxb, and_self, and_true, true_and, implies_true, imp_self, bne_eq_false_iff_eq, Nat.zero_add, Nat.le_refl, Int.toNat_natCast, Int.ofNat_lt, Int.natCast_nonneg, decide_eq_true_eq, decide_eq_false_iff_not, bne_iff_ne, ne_eq]; try dsimp only [Kd.T, Kds.T])) (ih (i + 1) ⟨by omega, by omega⟩ (by omega))
      (simp only [sxs, sxb, and_self, and_true, true_and, implies_true, imp_self, bne_eq_false_iff_eq, Nat.zero_add, Nat.le_refl, Int.toNat_natCast, Int.ofNat_lt, Int.natCast_nonneg, decide_eq_true_eq, decide_eq_false_iff_not, bne_iff_ne, ne_eq]; try dsimp only [Kd.T, Kds.T])
      rw [w64s (by omega)]
  clear ih
  have hgl := get_ok hm1 fx.d (by rw [hm2]; exact fx.c)
  have hkd := kind_of hm1 fx.d (by rw [hm2]; exact fx.c)
  have hsm := app_same hm1 fx.d (by rw [hm2]; exact fx.c)
  obtain ⟨g0, hge⟩ : ∃ g0, (listOf m d).getD (c - 1).toNat 0 = g0 := ⟨_, rfl⟩
  rw [hge] at hgl hkd hsm
  have hss := app_set hm1 hm2 ⟨fx.d, fx.c, hkd⟩
  rw [hsm] at hss
  have hgl' : getS (m.1, (m.2.1.1, m.2.1.2.1, m.2.1.2.2.1, ()), ()) d c = (g0, 0) := hgl
  have hss' : setS (m.1, (m.2.1.1, m.2.1.2.1, m.2.1.2.2.1, ()), ()) d c g0 = (m, 0) := hss
  refine AM.run2 hG 200 (by cbv) ?_ ?_
  · (simp only [sxs, sxb, and_self, and_true, true_and, implies_true, imp_self, bne_eq_false_iff_eq, Nat.zero_add, Nat.le_refl, Int.toNat_natCast, Int.ofNat_lt, Int.natCast_nonneg, decide_eq_true_eq, decide_eq_false_iff_not, bne_iff_ne, ne_eq, hgl', hss']; try dsimp only [Kd.T, Kds.T])
    exact fun _ => check_small hm1
  refine AM.ret2 hG (by cbv) (by (simp only [sxs, sxb, and_self, and_true, true_and, implies_true, imp_self, bne_eq_false_iff_eq, Nat.zero_add, Nat.le_refl, Int.toNat_natCast, Int.ofNat_lt, Int.natCast_nonneg, decide_eq_true_eq, decide_eq_false_iff_not, bne_iff_ne, ne_eq]; try dsimp only [Kd.T, Kds.T])) (hQ _ _ (FinRo.of (by cbv) (by cbv) ?_ ?_))
  · (simp only [sxs, sxb, and_self, and_true, true_and, implies_true, imp_self, bne_eq_false_iff_eq, Nat.zero_add, Nat.le_refl, Int.toNat_natCast, Int.ofNat_lt, Int.natCast_nonneg, decide_eq_true_eq, decide_eq_false_iff_not, bne_iff_ne, ne_eq, hgl', hss']; try dsimp only [Kd.T, Kds.T])
  try (simp only [sxs, sxb, and_self, and_true, true_and, implies_true, imp_self, bne_eq_false_iff_eq, Nat.zero_add, Nat.le_refl, Int.toNat_natCast, Int.ofNat_lt, Int.natCast_nonneg, decide_eq_true_eq, decide_eq_false_iff_not, bne_iff_ne, ne_eq, hgl', hss']; try dsimp only [Kd.T, Kds.T])
  try simp [eqI]
end Go.Sx.Ytengkdmlnnehgaa

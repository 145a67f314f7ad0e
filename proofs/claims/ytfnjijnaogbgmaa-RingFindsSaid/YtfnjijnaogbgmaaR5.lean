/- Rings: Wipe. -/
import Derived.Test.YtfnjijnaogbgmaaR4
namespace Go.Sx.Ytfnjijnaogbgmaa
open Go Go.Sx Go.Proofs
set_option linter.unusedVariables false
set_option linter.unusedSimpArgs false
set_option maxRecDepth 100000

theorem rowsE {P : Program} {G : Gl} {E : Env} {rs : List ResultVar} (hG : GOk P G E rs) : EnvRows P E := by
  have := hG.ok.rows
  rw [hG.e, hG.p] at this
  exact this
def Dist (m : List (Int × Bool)) : Prop := (m.map fun kv => kv.1).Nodup
theorem put_cons (kv : Int × Bool) (m : List (Int × Bool)) (k : Int) (v : Bool) : putD (eqK I64) (kv :: m) k v = if k = kv.1 then (k, v) :: m else kv :: putD (eqK I64) m k v := by
  have e : (eqK I64 k kv.1 = true) = (k = kv.1) := eqI_t k kv.1
  rw [putD]
  by_cases q : k = kv.1
  · rw [if_pos (e.mpr q), if_pos q]
  · rw [if_neg (fun h => q (e.mp h)), if_neg q]
theorem look_put : ∀ (m : List (Int × Bool)) (k : Int) (v : Bool) (x : Int), lookI (putD (eqK I64) m k v) x = if x = k then v else lookI m x
  | [], k, v, x => by simp only [putD, lookI]
  | kv :: m, k, v, x => by
    rw [put_cons]
    by_cases h : k = kv.1
    · rw [if_pos h, lookI, lookI]
      simp only [← h]
      by_cases h2 : x = k
      · rw [if_pos h2, if_pos h2]
      · rw [if_neg h2, if_neg h2, if_neg h2]
    · rw [if_neg h, lookI, lookI, look_put m k v x]
      by_cases h2 : x = kv.1
      · rw [if_pos h2, if_pos h2, if_neg (fun e => h (e.symm.trans h2))]
      · rw [if_neg h2, if_neg h2]
theorem put_keys : ∀ (m : List (Int × Bool)) (k : Int) (v : Bool), ∀ x ∈ (putD (eqK I64) m k v).map (fun kv => kv.1), x = k ∨ x ∈ m.map fun kv => kv.1
  | [], k, v, x, h => by
    simp only [putD, List.map_cons, List.map_nil, List.mem_singleton] at h
    exact .inl h
  | kv :: m, k, v, x, h => by
    rw [put_cons] at h
    by_cases q : k = kv.1
    · rw [if_pos q] at h
      simp only [List.map_cons, List.mem_cons] at h ⊢
      rcases h with h | h
      · exact .inl h
      · exact .inr (.inr h)
    · rw [if_neg q] at h
      simp only [List.map_cons, List.mem_cons] at h ⊢
      rcases h with h | h
      · exact .inr (.inl h)
      · rcases put_keys m k v x h with h | h
        · exact .inl h
        · exact .inr (.inr h)
theorem put_dist : ∀ (m : List (Int × Bool)) (k : Int) (v : Bool), Dist m → Dist (putD (eqK I64) m k v)
  | [], k, v, _ => by simp [Dist, putD]
  | kv :: m, k, v, h => by
    unfold Dist at h ⊢
    rw [List.map_cons, List.nodup_cons] at h
    rw [put_cons]
    by_cases q : k = kv.1
    · rw [if_pos q, List.map_cons, List.nodup_cons, q]
      exact h
    · rw [if_neg q, List.map_cons, List.nodup_cons]
      refine ⟨fun hm => ?_, put_dist m k v h.2⟩
      rcases put_keys m k v _ hm with e | e
      · exact q e.symm
      · exact h.1 e
theorem look_no : ∀ {m : List (Int × Bool)} {x : Int}, x ∉ m.map (fun kv => kv.1) → lookI m x = false
  | [], _, _ => rfl
  | kv :: m, x, h => by
    rw [List.map_cons, List.mem_cons] at h
    rw [lookI, if_neg (fun e => h (.inl e)), look_no (fun e => h (.inr e))]
theorem look_del : ∀ {m : List (Int × Bool)} (k x : Int), Dist m → lookI (delI m k) x = if x = k then false else lookI m x
  | [], k, x, _ => by simp [delI, lookI]
  | kv :: m, k, x, h => by
    unfold Dist at h
    rw [List.map_cons, List.nodup_cons] at h
    by_cases q : k = kv.1
    · rw [delI, List.eraseP_cons_of_pos (by simp [q]), lookI]
      by_cases h2 : x = k
      · rw [if_pos h2, h2, q]
        exact look_no h.1
      · rw [if_neg h2, if_neg (fun e => h2 (e.trans q.symm))]
    · rw [delI, List.eraseP_cons_of_neg (by simp [q]), ← delI, lookI, lookI, look_del k x h.2]
      by_cases h2 : x = kv.1
      · rw [if_pos h2, if_pos h2, if_neg (fun e => q (e.symm.trans h2))]
      · rw [if_neg h2, if_neg h2]
theorem del_dist {m : List (Int × Bool)} (k : Int) (h : Dist m) : Dist (delI m k) := by
  unfold Dist at h ⊢
  exact h.sublist ((List.eraseP_sublist).map _)
def inH (l : List Held) (x : Int) : Bool := l.any fun h => decide (h.2.1 = x)
def goneB (what : List Int) (h : Held) : Bool := what.any fun n => decide (h.2.1 = n)
def wipeR (r : Ring) (what : List Int) : Ring × List Held × Int := if (ringC r).1 ≠ 0 then (zRing, [], (ringC r).1) else ((r.1, r.2.1, r.2.2.1.filter (fun h => !goneB what h), ()), r.2.2.1.filter (goneB what), 0)
theorem in_step {l : List Held} {i : Nat} (h : i < l.length) (x : Int) : inH (l.take (i + 1)) x = (inH (l.take i) x || decide ((l.getD i zH).2.1 = x)) := by
  rw [inH, take_succG zH h, List.any_append]
  simp [inH]
def S20 : List AV → Option FOut := sigSpec [RingK, IntsK] [RingK, HeldsK, I64] (fun x : Ring × List Int × Unit => ((wipeR x.1 x.2.1).1, (wipeR x.1 x.2.1).2.1, (wipeR x.1 x.2.1).2.2, ())) (fun x : Ring × List Int × Unit => x.1.2.2.1.length ≤ 1000000 ∧ x.2.1.length ≤ 1000000)
set_option maxHeartbeats 8000000 in
theorem fn20 : FnOk Try.prog 20 S20 := by
  refine fn_ofB (rs := [.cell 4 27, .tmp 5, .tmp 6]) (env [(17, S17)] ⟨fn17, trivial⟩) Try.func20 (by kernel_rfl) rfl rfl Try.ntmps20 ?_
  rintro ⟨⟨(cap : Int), (next : Int), (l : List Held), ⟨⟩⟩, (what : List Int), u2⟩ ⟨hl, hwl⟩ G hG hB hQ
  have hB := GB.of hB
  simp only at hl hwl
  refine AM.run2 hG 100 (by cbv) ?_ ?_
  · (simp only [sxs, sxb, and_self, and_true, true_and, implies_true, imp_self, bne_eq_false_iff_eq, Nat.zero_add, Nat.le_refl, Int.toNat_natCast, Int.ofNat_lt, Int.natCast_nonneg, decide_eq_true_eq, decide_eq_false_iff_not, bne_iff_ne, ne_eq]; try dsimp only [Kd.T, Kds.T, AK.T, AKs.T])
    exact hl
  refine AM.case 24 rfl (fun c => ?_) (fun c => ?_) <;> (simp only [sxs, sxb, and_self, and_true, true_and, implies_true, imp_self, bne_eq_false_iff_eq, Nat.zero_add, Nat.le_refl, Int.toNat_natCast, Int.ofNat_lt, Int.natCast_nonneg, decide_eq_true_eq, decide_eq_false_iff_not, bne_iff_ne, ne_eq] at c; try dsimp only [Kd.T, Kds.T, AK.T, AKs.T] at c)
  · replace c : ¬ (ringC (cap, next, l, ())).1 = 0 := c
    refine AM.run2 hG 100 (by cbv) ?_ ?_
    · (simp only [sxs, sxb, and_self, and_true, true_and, implies_true, imp_self, bne_eq_false_iff_eq, Nat.zero_add, Nat.le_refl, Int.toNat_natCast, Int.ofNat_lt, Int.natCast_nonneg, decide_eq_true_eq, decide_eq_false_iff_not, bne_iff_ne, ne_eq]; try dsimp only [Kd.T, Kds.T, AK.T, AKs.T])
    refine AM.ret2 hG (by cbv) (by (simp only [sxs, sxb, and_self, and_true, true_and, implies_true, imp_self, bne_eq_false_iff_eq, Nat.zero_add, Nat.le_refl, Int.toNat_natCast, Int.ofNat_lt, Int.natCast_nonneg, decide_eq_true_eq, decide_eq_false_iff_not, bne_iff_ne, ne_eq]; try dsimp only [Kd.T, Kds.T, AK.T, AKs.T])) (hQ _ _ (FinRo.of (by cbv) (by cbv) ?_ ?_))
    · (simp only [sxs, sxb, and_self, and_true, true_and, implies_true, imp_self, bne_eq_false_iff_eq, Nat.zero_add, Nat.le_refl, Int.toNat_natCast, Int.ofNat_lt, Int.natCast_nonneg, decide_eq_true_eq, decide_eq_false_iff_not, bne_iff_ne, ne_eq]; try dsimp only [Kd.T, Kds.T, AK.T, AKs.T])
    try (simp only [sxs, sxb, and_self, and_true, true_and, implies_true, imp_self, bne_eq_false_iff_eq, Nat.zero_add, Nat.le_refl, Int.toNat_natCast, Int.ofNat_lt, Int.natCast_nonneg, decide_eq_true_eq, decide_eq_false_iff_not, bne_iff_ne, ne_eq]; try dsimp only [Kd.T, Kds.T, AK.T, AKs.T])
    rw [wipeR, if_pos c]
    exact ⟨⟨rfl, rfl, rfl⟩, rfl, rfl⟩
  replace c : (ringC (cap, next, l, ())).1 = 0 := c
  have hlen := (ring_ok c).len
  have hcap := (ring_ok c).cap
  simp only at hlen hcap
  refine AM.run2 hG 100 (by cbv) ?_ ?_
  · (simp only [sxs, sxb, and_self, and_true, true_and, implies_true, imp_self, bne_eq_false_iff_eq, Nat.zero_add, Nat.le_refl, Int.toNat_natCast, Int.ofNat_lt, Int.natCast_nonneg, decide_eq_true_eq, decide_eq_false_iff_not, bne_iff_ne, ne_eq]; try dsimp only [Kd.T, Kds.T, AK.T, AKs.T])
  refine AM.loopI (fun z : Nat × List (Int × Bool) => (frame 72 [(1, .ro I64 fun _ => what), (2, .ptr 0 0), (4, .ptr 1 0), (5, .nils), (9, .mp 2), (29, .ro HeldK fun _ => l), (30, .int .i64 (.t fun _ => nI l.length)), (31, .int .i64 (.t fun _ => nI z.1))],
    [.box 27 [.int .i64 (.t fun _ => cap), .int .u64 (.t fun _ => next), .ro HeldK fun _ => l], .box 27 [.int .i64 (.l 0), .int .u64 (.l 0), .nils], .map 65 I64 .bool (fun _ => z.2)]))
    (fun z => z.1 ≤ l.length ∧ Dist z.2 ∧ ∀ x, lookI z.2 x = inH (l.take z.1) x) (fun z => l.length - z.1) (0, []) ⟨Nat.zero_le _, List.nodup_nil, fun x => rfl⟩ ?_ ?_ ?_
  · cbv; (simp only [sxs, sxb, and_self, and_true, true_and, implies_true, imp_self, bne_eq_false_iff_eq, Nat.zero_add, Nat.le_refl, Int.toNat_natCast, Int.ofNat_lt, Int.natCast_nonneg, decide_eq_true_eq, decide_eq_false_iff_not, bne_iff_ne, ne_eq]; try dsimp only [Kd.T, Kds.T, AK.T, AKs.T]); all_goals ((repeat' apply And.intro) <;> first | rfl | assumption | exact trivial)
  · cbv; (simp only [sxs, sxb, and_self, and_true, true_and, implies_true, imp_self, bne_eq_false_iff_eq, Nat.zero_add, Nat.le_refl, Int.toNat_natCast, Int.ofNat_lt, Int.natCast_nonneg, decide_eq_true_eq, decide_eq_false_iff_not, bne_iff_ne, ne_eq]; try dsimp only [Kd.T, Kds.T, AK.T, AKs.T]); all_goals ((repeat' apply And.intro) <;> first | rfl | assumption | exact trivial)
  rintro ⟨i, m⟩ ⟨hi, hd, hm⟩ ih
  simp only at hi hd hm
  refine AM.run2 hG 100 (by cbv) ?_ ?_
  · (simp only [sxs, sxb, and_self, and_true, true_and, implies_true, imp_self, bne_eq_false_iff_eq, Nat.zero_add, Nat.le_refl, Int.toNat_natCast, Int.ofNat_lt, Int.natCast_nonneg, decide_eq_true_eq, decide_eq_false_iff_not, bne_iff_ne, ne_eq]; try dsimp only [Kd.T, Kds.T, AK.T, AKs.T])
  refine AM.case 32 rfl (fun h => ?_) (fun h => ?_) <;> (simp only [sxs, sxb, and_self, and_true, true_and, implies_true, imp_self, bne_eq_false_iff_eq, Nat.zero_add, Nat.le_refl, Int.toNat_natCast, Int.ofNat_lt, Int.natCast_nonneg, decide_eq_true_eq, decide_eq_false_iff_not, bne_iff_ne, ne_eq] at h; try dsimp only [Kd.T, Kds.T, AK.T, AKs.T] at h)
  · refine AM.run2 hG 100 (by cbv) ?_ ?_
    · (simp only [sxs, sxb, and_self, and_true, true_and, implies_true, imp_self, bne_eq_false_iff_eq, Nat.zero_add, Nat.le_refl, Int.toNat_natCast, Int.ofNat_lt, Int.natCast_nonneg, decide_eq_true_eq, decide_eq_false_iff_not, bne_iff_ne, ne_eq]; try dsimp only [Kd.T, Kds.T, AK.T, AKs.T])
      exact h
    refine AM.ren hB [0, 1, 2] (by cbv) (by cbv) (by cbv) ?_ ?_ (ih (i + 1, putD (eqK I64) m (l.getD i zH).2.1 true) ⟨by simp only; omega, put_dist _ _ _ hd, fun x => by rw [look_put, hm, in_step h]; by_cases q : x = (l.getD i zH).2.1 <;> simp [q, eq_comm, Bool.or_comm]⟩ (by simp only; omega))
    · (simp only [sxs, sxb, and_self, and_true, true_and, implies_true, imp_self, bne_eq_false_iff_eq, Nat.zero_add, Nat.le_refl, Int.toNat_natCast, Int.ofNat_lt, Int.natCast_nonneg, decide_eq_true_eq, decide_eq_false_iff_not, bne_iff_ne, ne_eq]; try dsimp only [Kd.T, Kds.T, AK.T, AKs.T])
      rw [w64s (by omega)]
    · (simp only [sxs, sxb, and_self, and_true, true_and, implies_true, imp_self, bne_eq_false_iff_eq, Nat.zero_add, Nat.le_refl, Int.toNat_natCast, Int.ofNat_lt, Int.natCast_nonneg, decide_eq_true_eq, decide_eq_false_iff_not, bne_iff_ne, ne_eq]; try dsimp only [Kd.T, Kds.T, AK.T, AKs.T])
  clear ih
  obtain rfl : i = l.length := by omega
  rw [List.take_length] at hm
  refine AM.openMap 2 rfl (Nat.le_of_ble_eq_true rfl) ?_
  intro es0 hes0
  refine AM.run2 hG 100 (by cbv) ?_ ?_
  · (simp only [sxs, sxb, and_self, and_true, true_and, implies_true, imp_self, bne_eq_false_iff_eq, Nat.zero_add, Nat.le_refl, Int.toNat_natCast, Int.ofNat_lt, Int.natCast_nonneg, decide_eq_true_eq, decide_eq_false_iff_not, bne_iff_ne, ne_eq]; try dsimp only [Kd.T, Kds.T, AK.T, AKs.T])
  refine AM.loopI (fun z : Nat × Array MapEntry × List (Int × Bool) => (frame 72 [(1, .ro I64 fun _ => what), (2, .ptr 0 0), (4, .ptr 1 0), (5, .nils), (9, .mp 2), (39, .ro I64 fun _ => what), (40, .int .i64 (.t fun _ => nI what.length)), (41, .int .i64 (.t fun _ => nI z.1))],
    [.box 27 [.int .i64 (.t fun _ => cap), .int .u64 (.t fun _ => next), .ro HeldK fun _ => l], .box 27 [.int .i64 (.l 0), .int .u64 (.l 0), .nils], .obj fun _ => .map z.2.1 es0.size]))
    (fun z => z.1 ≤ what.length ∧ EsI z.2.1.toList z.2.2 ∧ Dist z.2.2 ∧ ∀ x, lookI z.2.2 x = (inH l x && !(what.take z.1).any fun n => decide (x = n))) (fun z => what.length - z.1) (0, es0, m) ⟨Nat.zero_le _, hes0, hd, fun x => by rw [hm]; simp⟩ ?_ ?_ ?_
  · cbv; (simp only [sxs, sxb, and_self, and_true, true_and, implies_true, imp_self, bne_eq_false_iff_eq, Nat.zero_add, Nat.le_refl, Int.toNat_natCast, Int.ofNat_lt, Int.natCast_nonneg, decide_eq_true_eq, decide_eq_false_iff_not, bne_iff_ne, ne_eq]; try dsimp only [Kd.T, Kds.T, AK.T, AKs.T]); all_goals ((repeat' apply And.intro) <;> first | rfl | assumption | exact trivial)
  · cbv; (simp only [sxs, sxb, and_self, and_true, true_and, implies_true, imp_self, bne_eq_false_iff_eq, Nat.zero_add, Nat.le_refl, Int.toNat_natCast, Int.ofNat_lt, Int.natCast_nonneg, decide_eq_true_eq, decide_eq_false_iff_not, bne_iff_ne, ne_eq]; try dsimp only [Kd.T, Kds.T, AK.T, AKs.T]); all_goals ((repeat' apply And.intro) <;> first | rfl | assumption | exact trivial)
  rintro ⟨j, es, m2⟩ ⟨hj, hes, hd2, hm2⟩ ih
  simp only at hj hes hd2 hm2
  refine AM.run2 hG 100 (by cbv) ?_ ?_
  · (simp only [sxs, sxb, and_self, and_true, true_and, implies_true, imp_self, bne_eq_false_iff_eq, Nat.zero_add, Nat.le_refl, Int.toNat_natCast, Int.ofNat_lt, Int.natCast_nonneg, decide_eq_true_eq, decide_eq_false_iff_not, bne_iff_ne, ne_eq]; try dsimp only [Kd.T, Kds.T, AK.T, AKs.T])
  refine AM.case 42 rfl (fun h => ?_) (fun h => ?_) <;> (simp only [sxs, sxb, and_self, and_true, true_and, implies_true, imp_self, bne_eq_false_iff_eq, Nat.zero_add, Nat.le_refl, Int.toNat_natCast, Int.ofNat_lt, Int.natCast_nonneg, decide_eq_true_eq, decide_eq_false_iff_not, bne_iff_ne, ne_eq] at h; try dsimp only [Kd.T, Kds.T, AK.T, AKs.T] at h)
  · refine AM.run2 hG 100 (by cbv) ?_ ?_
    · (simp only [sxs, sxb, and_self, and_true, true_and, implies_true, imp_self, bne_eq_false_iff_eq, Nat.zero_add, Nat.le_refl, Int.toNat_natCast, Int.ofNat_lt, Int.natCast_nonneg, decide_eq_true_eq, decide_eq_false_iff_not, bne_iff_ne, ne_eq]; try dsimp only [Kd.T, Kds.T, AK.T, AKs.T])
      exact h
    refine AM.delMap hG (by cbv) rfl rfl rfl rfl Try.underlying65 Try.underlying3 hes ?_
    intro es' hes'
    refine AM.run2 hG 100 (by cbv) ?_ ?_
    · (simp only [sxs, sxb, and_self, and_true, true_and, implies_true, imp_self, bne_eq_false_iff_eq, Nat.zero_add, Nat.le_refl, Int.toNat_natCast, Int.ofNat_lt, Int.natCast_nonneg, decide_eq_true_eq, decide_eq_false_iff_not, bne_iff_ne, ne_eq]; try dsimp only [Kd.T, Kds.T, AK.T, AKs.T])
    refine AM.imp2 (by cbv) (by cbv) ?_ ?_ (ih (j + 1, es', delI m2 (what.getD j 0)) ⟨by simp only; omega, hes', del_dist _ hd2, fun x => ?_⟩ (by simp only; omega))
    · (simp only [sxs, sxb, and_self, and_true, true_and, implies_true, imp_self, bne_eq_false_iff_eq, Nat.zero_add, Nat.le_refl, Int.toNat_natCast, Int.ofNat_lt, Int.natCast_nonneg, decide_eq_true_eq, decide_eq_false_iff_not, bne_iff_ne, ne_eq]; try dsimp only [Kd.T, Kds.T, AK.T, AKs.T])
      rw [w64s (by omega)]
    · (simp only [sxs, sxb, and_self, and_true, true_and, implies_true, imp_self, bne_eq_false_iff_eq, Nat.zero_add, Nat.le_refl, Int.toNat_natCast, Int.ofNat_lt, Int.natCast_nonneg, decide_eq_true_eq, decide_eq_false_iff_not, bne_iff_ne, ne_eq]; try dsimp only [Kd.T, Kds.T, AK.T, AKs.T])
    · simp only
      rw [look_del _ _ hd2, hm2, take_succG 0 h, List.any_append]
      by_cases q : x = what.getD j 0
      · rw [if_pos q, List.any_cons, List.any_nil, decide_eq_true q, Bool.true_or, Bool.or_true]
        simp
      · rw [if_neg q, List.any_cons, List.any_nil, decide_eq_false q, Bool.or_false, Bool.or_false]
  clear ih
  obtain rfl : j = what.length := by omega
  rw [List.take_length] at hm2
  have hin : ∀ k, k < l.length → inH l (l.getD k zH).2.1 = true := fun k hk => by
    rw [inH, List.any_eq_true]
    exact ⟨l.getD k zH, by rw [List.getD_eq_getElem?_getD, List.getElem?_eq_getElem hk]; exact List.getElem_mem _, by simp⟩
  have hlk : ∀ k, k < l.length → lookI m2 (l.getD k zH).2.1 = !goneB what (l.getD k zH) := fun k hk => by
    rw [hm2, hin k hk, Bool.true_and]
    rfl
  have hE := rowsE hG
  refine AM.run2 hG 100 (by cbv) ?_ ?_
  · (simp only [sxs, sxb, and_self, and_true, true_and, implies_true, imp_self, bne_eq_false_iff_eq, Nat.zero_add, Nat.le_refl, Int.toNat_natCast, Int.ofNat_lt, Int.natCast_nonneg, decide_eq_true_eq, decide_eq_false_iff_not, bne_iff_ne, ne_eq]; try dsimp only [Kd.T, Kds.T, AK.T, AKs.T])
  refine AM.emptySlot 14 38 HeldK rfl ?_
  refine AM.emptySlot 15 38 HeldK rfl ?_
  refine AM.loopI (fun z : Nat × List Held × List Held => (frame 72 [(2, .ptr 0 0), (4, .ptr 1 0), (5, .nils), (9, .mp 2), (14, .sl 3 2 (.l 0) (.t fun _ => z.2.1.length)), (15, .sl 4 2 (.l 0) (.t fun _ => z.2.2.length)), (49, .ro HeldK fun _ => l), (50, .int .i64 (.t fun _ => nI l.length)), (51, .int .i64 (.t fun _ => nI z.1))],
    [.box 27 [.int .i64 (.t fun _ => cap), .int .u64 (.t fun _ => next), .ro HeldK fun _ => l], .box 27 [.int .i64 (.l 0), .int .u64 (.l 0), .nils], .obj fun _ => .map es es0.size, .row 38 HeldK (fun _ => z.2.1), .row 38 HeldK (fun _ => z.2.2)]))
    (fun z => z.1 ≤ l.length ∧ z.2.1 = (l.take z.1).filter (fun h => !goneB what h) ∧ z.2.2 = (l.take z.1).filter (goneB what)) (fun z => l.length - z.1) (0, [], []) ⟨Nat.zero_le _, rfl, rfl⟩ ?_ ?_ ?_
  · cbv; (simp only [sxs, sxb, and_self, and_true, true_and, implies_true, imp_self, bne_eq_false_iff_eq, Nat.zero_add, Nat.le_refl, Int.toNat_natCast, Int.ofNat_lt, Int.natCast_nonneg, decide_eq_true_eq, decide_eq_false_iff_not, bne_iff_ne, ne_eq]; try dsimp only [Kd.T, Kds.T, AK.T, AKs.T]); all_goals ((repeat' apply And.intro) <;> first | rfl | assumption | exact trivial)
  · cbv; (simp only [sxs, sxb, and_self, and_true, true_and, implies_true, imp_self, bne_eq_false_iff_eq, Nat.zero_add, Nat.le_refl, Int.toNat_natCast, Int.ofNat_lt, Int.natCast_nonneg, decide_eq_true_eq, decide_eq_false_iff_not, bne_iff_ne, ne_eq]; try dsimp only [Kd.T, Kds.T, AK.T, AKs.T]); all_goals ((repeat' apply And.intro) <;> first | rfl | assumption | exact trivial)
  rintro ⟨i, lf, gn⟩ ⟨hi, h1, h2⟩ ih
  simp only at hi h1 h2
  have hl1 : lf.length ≤ 32 := by
    rw [h1]
    refine Nat.le_trans (List.length_filter_le _ _) ?_
    rw [List.length_take]
    omega
  have hl2 : gn.length ≤ 32 := by
    rw [h2]
    refine Nat.le_trans (List.length_filter_le _ _) ?_
    rw [List.length_take]
    omega
  refine AM.run2 hG 100 (by cbv) ?_ ?_
  · (simp only [sxs, sxb, and_self, and_true, true_and, implies_true, imp_self, bne_eq_false_iff_eq, Nat.zero_add, Nat.le_refl, Int.toNat_natCast, Int.ofNat_lt, Int.natCast_nonneg, decide_eq_true_eq, decide_eq_false_iff_not, bne_iff_ne, ne_eq]; try dsimp only [Kd.T, Kds.T, AK.T, AKs.T])
  refine AM.case 52 rfl (fun h => ?_) (fun h => ?_) <;> (simp only [sxs, sxb, and_self, and_true, true_and, implies_true, imp_self, bne_eq_false_iff_eq, Nat.zero_add, Nat.le_refl, Int.toNat_natCast, Int.ofNat_lt, Int.natCast_nonneg, decide_eq_true_eq, decide_eq_false_iff_not, bne_iff_ne, ne_eq] at h; try dsimp only [Kd.T, Kds.T, AK.T, AKs.T] at h)
  · refine AM.run2 hG 100 (by cbv) ?_ ?_
    · (simp only [sxs, sxb, and_self, and_true, true_and, implies_true, imp_self, bne_eq_false_iff_eq, Nat.zero_add, Nat.le_refl, Int.toNat_natCast, Int.ofNat_lt, Int.natCast_nonneg, decide_eq_true_eq, decide_eq_false_iff_not, bne_iff_ne, ne_eq]; try dsimp only [Kd.T, Kds.T, AK.T, AKs.T])
      exact h
    refine AM.lookMap hG (by cbv) rfl rfl rfl rfl Try.underlying65 Try.underlying3 (fun w => row_zero hE (t := 4) rfl) hes ?_
    have hst1 : (l.take (i + 1)).filter (fun h => !goneB what h) = lf ++ (if goneB what (l.getD i zH) = true then [] else [l.getD i zH]) := by
      rw [take_succG zH h, List.filter_append, ← h1]
      generalize l.getD i zH = y
      cases q : goneB what y <;> simp [q]
    have hst2 : (l.take (i + 1)).filter (goneB what) = gn ++ (if goneB what (l.getD i zH) = true then [l.getD i zH] else []) := by
      rw [take_succG zH h, List.filter_append, ← h2]
      generalize l.getD i zH = y
      cases q : goneB what y <;> simp [q]
    refine AM.case 58 rfl (fun (h3 : lookI m2 (l.getD i zH).2.1 = true) => ?_) (fun (h3 : lookI m2 (l.getD i zH).2.1 = false) => ?_)
    · rw [hlk i h, Bool.not_eq_true'] at h3
      rw [if_neg (by rw [h3]; decide)] at hst1 hst2
      rw [List.append_nil] at hst2
      refine AM.run2 hG 100 (by cbv) ?_ ?_
      · (simp only [sxs, sxb, and_self, and_true, true_and, implies_true, imp_self, bne_eq_false_iff_eq, Nat.zero_add, Nat.le_refl, Int.toNat_natCast, Int.ofNat_lt, Int.natCast_nonneg, decide_eq_true_eq, decide_eq_false_iff_not, bne_iff_ne, ne_eq]; try dsimp only [Kd.T, Kds.T, AK.T, AKs.T])
        simp only [maxLen, List.length_take, List.length_cons, List.length_nil]
        omega
      refine AM.ren hB [0, 1, 2, 7, 4] (by cbv) (by cbv) (by cbv) ?_ ?_ (ih (i + 1, lf ++ [l.getD i zH], gn) ⟨by simp only; omega, hst1.symm, by simp only; rw [hst2]⟩ (by simp only; omega))
      · (simp only [sxs, sxb, and_self, and_true, true_and, implies_true, imp_self, bne_eq_false_iff_eq, Nat.zero_add, Nat.le_refl, Int.toNat_natCast, Int.ofNat_lt, Int.natCast_nonneg, decide_eq_true_eq, decide_eq_false_iff_not, bne_iff_ne, ne_eq]; try dsimp only [Kd.T, Kds.T, AK.T, AKs.T])
        rw [List.length_append, w64s (by omega)]
        exact ⟨rfl, rfl⟩
      · (simp only [sxs, sxb, and_self, and_true, true_and, implies_true, imp_self, bne_eq_false_iff_eq, Nat.zero_add, Nat.le_refl, Int.toNat_natCast, Int.ofNat_lt, Int.natCast_nonneg, decide_eq_true_eq, decide_eq_false_iff_not, bne_iff_ne, ne_eq]; try dsimp only [Kd.T, Kds.T, AK.T, AKs.T])
        rfl
    · rw [hlk i h, Bool.not_eq_false'] at h3
      rw [if_pos h3] at hst1 hst2
      rw [List.append_nil] at hst1
      refine AM.run2 hG 100 (by cbv) ?_ ?_
      · (simp only [sxs, sxb, and_self, and_true, true_and, implies_true, imp_self, bne_eq_false_iff_eq, Nat.zero_add, Nat.le_refl, Int.toNat_natCast, Int.ofNat_lt, Int.natCast_nonneg, decide_eq_true_eq, decide_eq_false_iff_not, bne_iff_ne, ne_eq]; try dsimp only [Kd.T, Kds.T, AK.T, AKs.T])
        simp only [maxLen, List.length_take, List.length_cons, List.length_nil]
        omega
      refine AM.ren hB [0, 1, 2, 3, 7] (by cbv) (by cbv) (by cbv) ?_ ?_ (ih (i + 1, lf, gn ++ [l.getD i zH]) ⟨by simp only; omega, by simp only; rw [hst1], hst2.symm⟩ (by simp only; omega))
      · (simp only [sxs, sxb, and_self, and_true, true_and, implies_true, imp_self, bne_eq_false_iff_eq, Nat.zero_add, Nat.le_refl, Int.toNat_natCast, Int.ofNat_lt, Int.natCast_nonneg, decide_eq_true_eq, decide_eq_false_iff_not, bne_iff_ne, ne_eq]; try dsimp only [Kd.T, Kds.T, AK.T, AKs.T])
        rw [List.length_append, w64s (by omega)]
        exact ⟨rfl, rfl⟩
      · (simp only [sxs, sxb, and_self, and_true, true_and, implies_true, imp_self, bne_eq_false_iff_eq, Nat.zero_add, Nat.le_refl, Int.toNat_natCast, Int.ofNat_lt, Int.natCast_nonneg, decide_eq_true_eq, decide_eq_false_iff_not, bne_iff_ne, ne_eq]; try dsimp only [Kd.T, Kds.T, AK.T, AKs.T])
        rfl
  clear ih
  obtain rfl : i = l.length := by omega
  rw [List.take_length] at h1 h2
  refine AM.frz [3, 4] (by cbv) (by (simp only [sxs, sxb, and_self, and_true, true_and, implies_true, imp_self, bne_eq_false_iff_eq, Nat.zero_add, Nat.le_refl, Int.toNat_natCast, Int.ofNat_lt, Int.natCast_nonneg, decide_eq_true_eq, decide_eq_false_iff_not, bne_iff_ne, ne_eq]; try dsimp only [Kd.T, Kds.T, AK.T, AKs.T])) ?_
  refine AM.run2 hG 100 (by cbv) ?_ ?_
  · (simp only [sxs, sxb, and_self, and_true, true_and, implies_true, imp_self, bne_eq_false_iff_eq, Nat.zero_add, Nat.le_refl, Int.toNat_natCast, Int.ofNat_lt, Int.natCast_nonneg, decide_eq_true_eq, decide_eq_false_iff_not, bne_iff_ne, ne_eq]; try dsimp only [Kd.T, Kds.T, AK.T, AKs.T])
  refine AM.ret2 hG (by cbv) (by (simp only [sxs, sxb, and_self, and_true, true_and, implies_true, imp_self, bne_eq_false_iff_eq, Nat.zero_add, Nat.le_refl, Int.toNat_natCast, Int.ofNat_lt, Int.natCast_nonneg, decide_eq_true_eq, decide_eq_false_iff_not, bne_iff_ne, ne_eq]; try dsimp only [Kd.T, Kds.T, AK.T, AKs.T])) (hQ _ _ (FinRo.of (by cbv) (by cbv) ?_ ?_))
  · (simp only [sxs, sxb, and_self, and_true, true_and, implies_true, imp_self, bne_eq_false_iff_eq, Nat.zero_add, Nat.le_refl, Int.toNat_natCast, Int.ofNat_lt, Int.natCast_nonneg, decide_eq_true_eq, decide_eq_false_iff_not, bne_iff_ne, ne_eq]; try dsimp only [Kd.T, Kds.T, AK.T, AKs.T])
  try (simp only [sxs, sxb, and_self, and_true, true_and, implies_true, imp_self, bne_eq_false_iff_eq, Nat.zero_add, Nat.le_refl, Int.toNat_natCast, Int.ofNat_lt, Int.natCast_nonneg, decide_eq_true_eq, decide_eq_false_iff_not, bne_iff_ne, ne_eq]; try dsimp only [Kd.T, Kds.T, AK.T, AKs.T])
  rw [wipeR, if_neg (by rw [c]; decide)]
  simp only [List.take_length]
  exact ⟨⟨trivial, trivial, h1⟩, h2, trivial⟩
end Go.Sx.Ytfnjijnaogbgmaa

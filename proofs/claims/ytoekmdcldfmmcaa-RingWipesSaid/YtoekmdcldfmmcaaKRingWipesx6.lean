/- Part 6 of RingWipes: what the functions reckon, step by step, and plain laws. No condition. -/
import Derived.Test.YtoekmdcldfmmcaaKRingWipesx5
set_option linter.unusedVariables false
set_option linter.unusedSimpArgs false
section
namespace Go.Proofs.Ytoekmdcldfmmcaa.Pure
open Go.RowKit Go.Proofs.Ytoekmdcldfmmcaa.F Go.Proofs.YtoekmdcldfmmcaaW.PrintWords Go.Proofs.YtoekmdcldfmmcaaW.PrintLast
set_option linter.unusedVariables false
set_option linter.unusedSimpArgs false
theorem ckFrom_zero (nx : Int) (l : List S35) : ∀ (pv : Int) (i : Nat), (ckFrom nx pv i l).1 = 0 → ckFrom nx pv i l = (0, 0) := by
  induction l with
  | nil => intro pv i h; rfl
  | cons x r ih =>
    intro pv i h
    simp only [ckFrom] at h ⊢
    split at h
    · simp at h
    · split at h
      · simp at h
      · rename_i a b
        rw [if_neg a, if_neg b]
        exact ih _ _ h
end Go.Proofs.Ytoekmdcldfmmcaa.Pure
end
section
namespace Go.Proofs.Ytoekmdcldfmmcaa.Pure
open Go.RowKit Go.Proofs.Ytoekmdcldfmmcaa.F Go.Proofs.YtoekmdcldfmmcaaW.PrintWords Go.Proofs.YtoekmdcldfmmcaaW.PrintLast
set_option linter.unusedVariables false
set_option linter.unusedSimpArgs false
theorem ckS_valid {a0 a1 : Int} {l : List S35} (h : Valid a0 a1 l) : ckS a0 a1 l = (0, 0) := by
  obtain ⟨h1, h2, h3, h4, h5, h6⟩ := h
  unfold ckS
  rw [if_neg (by omega), if_neg (by omega)]
  exact ckFrom_zero _ _ _ _ ((ckFrom_asc a1 l 0 0 (by omega)).2 h6)
end Go.Proofs.Ytoekmdcldfmmcaa.Pure
end
section
namespace Go.Proofs.Ytoekmdcldfmmcaa.Pure
open Go.RowKit Go.Proofs.Ytoekmdcldfmmcaa.F Go.Proofs.YtoekmdcldfmmcaaW.PrintWords Go.Proofs.YtoekmdcldfmmcaaW.PrintLast
set_option linter.unusedVariables false
set_option linter.unusedSimpArgs false
def firstS (a0 a1 : Int) (l : List S35) (n : Int) : Int × Int × Int := if (ckS a0 a1 l).1 = 0 then (if l.findIdx (fun x => x.f1 == n) < l.length then ((rd_T35 l (l.findIdx (fun x => x.f1 == n) : Nat)).f0, (rd_T35 l (l.findIdx (fun x => x.f1 == n) : Nat)).f1, 0) else (0, 0, 6)) else (0, 0, (ckS a0 a1 l).1)
end Go.Proofs.Ytoekmdcldfmmcaa.Pure
end
section
namespace Go.Proofs.Ytoekmdcldfmmcaa.Pure
open Go.RowKit Go.Proofs.Ytoekmdcldfmmcaa.F Go.Proofs.YtoekmdcldfmmcaaW.PrintWords Go.Proofs.YtoekmdcldfmmcaaW.PrintLast
set_option linter.unusedVariables false
set_option linter.unusedSimpArgs false
theorem first_ (a0 a1 : Int) (l : List S35) (n : Int) : ring_First.f a0 a1 l n = some (firstS a0 a1 l n) := by
  unfold ring_First.f firstS
  rw [chk 4096 (by omega)]
  simp only [Option.bind_some]
  by_cases c : (ckS a0 a1 l).1 = 0
  · rw [if_pos c, if_pos c]
    unfold idxOf
    by_cases d : l.findIdx (fun x => x.f1 == n) < l.length
    · rw [if_pos d, if_pos d, if_neg (by omega)]
    · rw [if_neg d, if_neg d, if_pos (by omega)]
  · rw [if_neg c, if_neg c]
end Go.Proofs.Ytoekmdcldfmmcaa.Pure
end
section
namespace Go.Proofs.Ytoekmdcldfmmcaa.Pure
open Go.RowKit Go.Proofs.Ytoekmdcldfmmcaa.F Go.Proofs.YtoekmdcldfmmcaaW.PrintWords Go.Proofs.YtoekmdcldfmmcaaW.PrintLast
set_option linter.unusedVariables false
set_option linter.unusedSimpArgs false
/-- The numbers 1 .. n. -/
def nums1 (n : Nat) : List Int := (List.range n).map (fun i => ((i + 1 : Nat) : Int))
end Go.Proofs.Ytoekmdcldfmmcaa.Pure
end
section
namespace Go.Proofs.Ytoekmdcldfmmcaa.Pure
open Go.RowKit Go.Proofs.Ytoekmdcldfmmcaa.F Go.Proofs.YtoekmdcldfmmcaaW.PrintWords Go.Proofs.YtoekmdcldfmmcaaW.PrintLast
set_option linter.unusedVariables false
set_option linter.unusedSimpArgs false
theorem nums1_next (n : Nat) : nums1 (n + 1) = nums1 n ++ [((n + 1 : Nat) : Int)] := by
  unfold nums1
  rw [List.range_succ, List.map_append]
  rfl
end Go.Proofs.Ytoekmdcldfmmcaa.Pure
end
section
namespace Go.Proofs.Ytoekmdcldfmmcaa.Pure
open Go.RowKit Go.Proofs.Ytoekmdcldfmmcaa.F Go.Proofs.YtoekmdcldfmmcaaW.PrintWords Go.Proofs.YtoekmdcldfmmcaaW.PrintLast
set_option linter.unusedVariables false
set_option linter.unusedSimpArgs false
theorem nums1_len (n : Nat) : (nums1 n).length = n := by simp [nums1]
end Go.Proofs.Ytoekmdcldfmmcaa.Pure
end
section
namespace Go.Proofs.Ytoekmdcldfmmcaa.Pure
open Go.RowKit Go.Proofs.Ytoekmdcldfmmcaa.F Go.Proofs.YtoekmdcldfmmcaaW.PrintWords Go.Proofs.YtoekmdcldfmmcaaW.PrintLast
set_option linter.unusedVariables false
set_option linter.unusedSimpArgs false
/-- What a ring made of numbers is like behind some steps: n numbers were given. -/
def Inv (size a0 a1 : Int) (l : List S35) (g : List Int) (n : Nat) : Prop :=
  a0 = size ∧ Valid a0 a1 l ∧ a1 = ((n + 1 : Nat) : Int) ∧ g = nums1 n ∧ l.all (fun h => wfW h.f1) = true
end Go.Proofs.Ytoekmdcldfmmcaa.Pure
end
section
namespace Go.Proofs.Ytoekmdcldfmmcaa.Pure
open Go.RowKit Go.Proofs.Ytoekmdcldfmmcaa.F Go.Proofs.YtoekmdcldfmmcaaW.PrintWords Go.Proofs.YtoekmdcldfmmcaaW.PrintLast
set_option linter.unusedVariables false
set_option linter.unusedSimpArgs false
theorem wf_small {x : Int} (h0 : -1000000 ≤ x) (h1 : x ≤ 1000000) : wfW x = true := by
  unfold wfW
  simp [Lit.wf, IntKind.min, IntKind.max, IntKind.signed, IntKind.bits]
  omega
end Go.Proofs.Ytoekmdcldfmmcaa.Pure
end
section
namespace Go.Proofs.Ytoekmdcldfmmcaa.Pure
open Go.RowKit Go.Proofs.Ytoekmdcldfmmcaa.F Go.Proofs.YtoekmdcldfmmcaaW.PrintWords Go.Proofs.YtoekmdcldfmmcaaW.PrintLast
set_option linter.unusedVariables false
set_option linter.unusedSimpArgs false
theorem mod_some (a m : Int) (h1 : 1 ≤ m) (h2 : m ≤ 1099511627776) : ∃ r, K_Mod.f a m = some r ∧ 0 ≤ r ∧ r < m := by
  unfold K_Mod.f
  rw [if_neg (by omega), if_neg (by omega)]
  have hlt : a.tmod m < m := Int.tmod_lt_of_pos a (by omega)
  have hgt : -m < a.tmod m := by
    have := Int.tmod_lt_of_pos (-a) (show 0 < m by omega)
    rw [Int.neg_tmod] at this
    omega
  by_cases c : a.tmod m < 0
  · rw [if_pos c]
    refine ⟨_, rfl, ?_, ?_⟩ <;> · unfold wrap64; omega
  · rw [if_neg c]
    exact ⟨_, rfl, by omega, hlt⟩
end Go.Proofs.Ytoekmdcldfmmcaa.Pure
end
section
namespace Go.Proofs.Ytoekmdcldfmmcaa.Pure
open Go.RowKit Go.Proofs.Ytoekmdcldfmmcaa.F Go.Proofs.YtoekmdcldfmmcaaW.PrintWords Go.Proofs.YtoekmdcldfmmcaaW.PrintLast
set_option linter.unusedVariables false
set_option linter.unusedSimpArgs false
theorem tmod_small (a m : Int) (h : 0 < m) : -m < a.tmod m ∧ a.tmod m < m := by
  have h1 := Int.tmod_lt_of_pos a h
  have h2 := Int.tmod_lt_of_pos (-a) h
  rw [Int.neg_tmod] at h2
  exact ⟨by omega, h1⟩
end Go.Proofs.Ytoekmdcldfmmcaa.Pure
end
section
namespace Go.Proofs.Ytoekmdcldfmmcaa.Pure
open Go.RowKit Go.Proofs.Ytoekmdcldfmmcaa.F Go.Proofs.YtoekmdcldfmmcaaW.PrintWords Go.Proofs.YtoekmdcldfmmcaaW.PrintLast
set_option linter.unusedVariables false
set_option linter.unusedSimpArgs false
theorem Inv.sub {size a0 a1 : Int} {l l' : List S35} {g : List Int} {n : Nat} (h : Inv size a0 a1 l g n) (hs : l'.Sublist l) : Inv size a0 a1 l' g n := by
  obtain ⟨h1, ⟨v1, v2, v3, v4, v5, v6, v7⟩, h3, h4, h5⟩ := h
  have hl := hs.length_le
  refine ⟨h1, ⟨v1, v2, v3, v4, by omega, v6.sublist hs, fun x hx => v7 x (hs.subset hx)⟩, h3, h4, List.all_eq_true.mpr fun x hx => List.all_eq_true.mp h5 x (hs.subset hx)⟩
end Go.Proofs.Ytoekmdcldfmmcaa.Pure
end
section
namespace Go.Proofs.Ytoekmdcldfmmcaa.Pure
open Go.RowKit Go.Proofs.Ytoekmdcldfmmcaa.F Go.Proofs.YtoekmdcldfmmcaaW.PrintWords Go.Proofs.YtoekmdcldfmmcaaW.PrintLast
set_option linter.unusedVariables false
set_option linter.unusedSimpArgs false
theorem Inv.put {size a0 a1 : Int} {l : List S35} {g : List Int} {n : Nat} (h : Inv size a0 a1 l g n) (hn : n ≤ 100) (hc : ¬ (l.length : Int) = a0) {w : Int} (hw : wfW w = true) : Inv size a0 (a1 + 1) (l ++ [⟨a1, w⟩]) (g ++ [a1]) (n + 1) := by
  obtain ⟨h1, ⟨v1, v2, v3, v4, v5, v6, v7⟩, h3, h4, h5⟩ := h
  refine ⟨h1, ⟨v1, v2, by omega, by omega, by simp; omega, ?_, ?_⟩, by omega, by rw [nums1_next, ← h4, ← h3], ?_⟩
  · rw [List.pairwise_append]
    exact ⟨v6, List.pairwise_singleton _ _, fun x hx y hy => by rw [List.mem_singleton] at hy; subst hy; exact (v7 x hx).2⟩
  · intro x hx
    rcases List.mem_append.1 hx with hx | hx
    · have := v7 x hx; omega
    · rw [List.mem_singleton] at hx; subst hx; exact ⟨by show 0 < a1; omega, by show a1 < a1 + 1; omega⟩
  · rw [List.all_append, h5]
    simp [hw]
end Go.Proofs.Ytoekmdcldfmmcaa.Pure
end
section
namespace Go.Proofs.Ytoekmdcldfmmcaa.Pure
open Go.RowKit Go.Proofs.Ytoekmdcldfmmcaa.F Go.Proofs.YtoekmdcldfmmcaaW.PrintWords Go.Proofs.YtoekmdcldfmmcaaW.PrintLast
set_option linter.unusedVariables false
set_option linter.unusedSimpArgs false
theorem madel (nums : List Int) (size : Int) : ∀ (m k i n : Nat) (a0 a1 : Int) (l : List S35) (g : List Int), m = min 60 nums.length - i → i ≤ min 60 nums.length → 3 * m + 103 ≤ k → n ≤ i → Inv size a0 a1 l g n →
    ∃ b0 b1 l' g' n', L05_made.l0 k nums size g (i : Int) a0 a1 l = some (b0, b1, l', g', true) ∧ Inv size b0 b1 l' g' n' ∧ n' ≤ 60 := by
  intro m
  induction m with
  | zero =>
    intro k i n a0 a1 l g hm hi hk hn hI
    obtain ⟨k, rfl⟩ : ∃ k', k = k' + 2 := ⟨k - 2, by omega⟩
    have h2 : L05_made.j2 (k + 1) nums size g (i : Int) false a0 a1 l = some (a0, a1, l, g, true) := by
      simp only [L05_made.j2]
      rw [if_neg (by decide), chk k (by omega), ckS_valid hI.2.1]
      simp only [Option.bind_some]
      rw [if_pos trivial, hI.1, beq_self_eq_true]
    refine ⟨a0, a1, l, g, n, ?_, hI, by omega⟩
    simp only [L05_made.l0]
    by_cases c : (i : Int) < (nums.length : Int)
    · rw [if_pos c, decide_eq_false (by omega), h2]
    · rw [if_neg c, h2]
  | succ m ih =>
    intro k i n a0 a1 l g hm hi hk hn hI
    obtain ⟨k, rfl⟩ : ∃ k', k = k' + 3 := ⟨k - 3, by omega⟩
    have hlt : i < nums.length := by omega
    have hv := hI.2.1
    have hg : g.length ≤ 60 := by rw [hI.2.2.2.1, nums1_len]; omega
    have hck := ckS_valid hv
    have hck0 : (ckS a0 a1 l).1 = 0 := by rw [hck]
    simp only [L05_made.l0]
    rw [if_pos (by omega), decide_eq_true (by omega)]
    simp only [L05_made.j2]
    rw [if_pos trivial, if_pos (by omega), if_pos (by omega)]
    obtain ⟨t, ht, ht0, ht1⟩ := mod_some (rd nums (i : Int)) 1048576 (by omega) (by omega)
    rw [ht]
    simp only [Option.bind_some]
    -- the next round, at an unchanged ring
    obtain ⟨c0, c1, lc, gc, nc, hnext, hInext⟩ := ih k (i + 1) n a0 a1 l g (by omega) (by omega) (by omega) (by omega) hI
    have h5 : ∀ y0 y1 y2, L05_made.j3 (k + 1) nums size g (i : Int) 5 a0 a1 l y0 y1 y2 = some (c0, c1, lc, gc, true) := by
      intro y0 y1 y2
      simp only [L05_made.j3]
      rw [if_neg (by decide), if_pos trivial, w_next (by omega), hnext]
    have h6 : ∀ y0 y1 y2, L05_made.j3 (k + 1) nums size g (i : Int) 6 a0 a1 l y0 y1 y2 = some (c0, c1, lc, gc, true) := by
      intro y0 y1 y2
      simp only [L05_made.j3]
      rw [if_neg (by decide), if_neg (by decide), if_pos trivial, w_next (by omega), hnext]
    by_cases d1 : t.tmod 6 < 4
    · rw [if_pos d1, put_]
      simp only [Option.bind_some]
      generalize hwd : Int.tmod (wrap64 (Int.tdiv t 6)) 5 = w
      have hw : wfW w = true := by
        have := tmod_small (wrap64 (Int.tdiv t 6)) 5 (by omega)
        rw [hwd] at this
        exact wf_small (by omega) (by omega)
      by_cases e1 : (l.length : Int) = a0
      · have hp : putS a0 a1 l w = (0, 0, [], 0, 5) := by unfold putS; rw [if_pos hck0, if_pos e1]
        rw [hp]
        dsimp only
        rw [if_neg (by decide), h5]
        exact ⟨c0, c1, lc, gc, nc, rfl, hInext⟩
      · have ha1 := hI.2.2.1
        have hp : putS a0 a1 l w = (a0, a1 + 1, l ++ [⟨a1, w⟩], a1, 0) := by unfold putS; rw [if_pos hck0, if_neg e1, if_neg (by omega)]
        rw [hp]
        dsimp only
        rw [if_pos (show (0 : Int) = 0 from rfl), if_pos (by omega)]
        simp only [L05_made.j3]
        rw [if_pos trivial, w_next (by omega)]
        exact ih k (i + 1) (n + 1) a0 (a1 + 1) (l ++ [⟨a1, w⟩]) (g ++ [a1]) (by omega) (by omega) (by omega) (by omega) (hI.put (by omega) e1 hw)
    · rw [if_neg d1]
      by_cases d2 : t.tmod 6 = 4
      · rw [if_pos d2, drop_]
        simp only [Option.bind_some]
        generalize IntKind.u64.wrap (wrap64 (1 + (Int.tmod (wrap64 (Int.tdiv t 6)) 40))) = u
        by_cases e1 : l.findIdx (fun x => x.f0 == u) < l.length
        · have hf : (findS a0 a1 l u).2 = 0 := by unfold findS; rw [if_pos hck0, if_pos e1]
          unfold dropS
          rw [if_pos hf]
          dsimp only
          simp only [L05_made.j3]
          rw [if_pos trivial, w_next (by omega)]
          refine ih k (i + 1) n _ _ _ g (by omega) (by omega) (by omega) (by omega) (hI.sub ?_)
          generalize l.findIdx (fun x => x.f0 == u) = F
          rw [← List.eraseIdx_eq_take_drop_succ]
          exact List.eraseIdx_sublist _ _
        · have hf : (findS a0 a1 l u) = (0, 6) := by unfold findS; rw [if_pos hck0, if_neg e1]
          unfold dropS
          rw [hf, if_neg (by decide)]
          dsimp only
          rw [h6]
          exact ⟨c0, c1, lc, gc, nc, rfl, hInext⟩
      · rw [if_neg d2]
        have hw : wfW (Int.tmod (wrap64 (Int.tdiv t 6)) 9) = true := by
          have := tmod_small (wrap64 (Int.tdiv t 6)) 9 (by omega)
          exact wf_small (by omega) (by omega)
        rw [wipe_ _ _ _ _ (by simp) hI.2.2.2.2 (by simp [hw])]
        simp only [Option.bind_some]
        unfold wipeS
        rw [if_pos hck0]
        dsimp only
        simp only [L05_made.j3]
        rw [if_pos trivial, w_next (by omega)]
        exact ih k (i + 1) n _ _ _ g (by omega) (by omega) (by omega) (by omega) (hI.sub List.filter_sublist)
end Go.Proofs.Ytoekmdcldfmmcaa.Pure
end
section
namespace Go.Proofs.Ytoekmdcldfmmcaa.Pure
open Go.RowKit Go.Proofs.Ytoekmdcldfmmcaa.F Go.Proofs.YtoekmdcldfmmcaaW.PrintWords Go.Proofs.YtoekmdcldfmmcaaW.PrintLast
set_option linter.unusedVariables false
set_option linter.unusedSimpArgs false
theorem made (a0 : Int) (nums : List Int) (k : Nat) (hk : 400 ≤ k) : ∃ size b0 b1 l g n, L05_made.f k a0 nums = some (b0, b1, l, g, true) ∧ Inv size b0 b1 l g n ∧ n ≤ 60 := by
  obtain ⟨t, ht, ht0, ht1⟩ := mod_some a0 32 (by omega) (by omega)
  have hs : wrap64 (1 + t) = 1 + t := by unfold wrap64; omega
  have hnew : ring_New.f (1 + t) = some (1 + t, 1, [], 0) := by unfold ring_New.f; rw [if_neg (by omega), if_neg (by omega)]
  obtain ⟨k, rfl⟩ : ∃ k', k = k' + 1 := ⟨k - 1, by omega⟩
  obtain ⟨b0, b1, l, g, n, h1, h2, h3⟩ := madel nums (1 + t) (min 60 nums.length) k 0 0 (1 + t) 1 [] [] (by omega) (by omega) (by omega) (Nat.le_refl _) ⟨rfl, ⟨by omega, by omega, by omega, by omega, by simp; omega, List.Pairwise.nil, fun x hx => (List.not_mem_nil hx).elim⟩, rfl, rfl, rfl⟩
  refine ⟨1 + t, b0, b1, l, g, n, ?_, h2, h3⟩
  unfold L05_made.f
  rw [ht]
  simp only [Option.bind_some]
  rw [hs, hnew]
  simp only [Option.bind_some]
  rw [if_pos trivial, bne_self_eq_false]
  simp only [L05_made.j0]
  rw [if_neg (by decide)]
  exact h1
end Go.Proofs.Ytoekmdcldfmmcaa.Pure
end
section
namespace Go.Proofs.Ytoekmdcldfmmcaa.Pure
open Go.RowKit Go.Proofs.Ytoekmdcldfmmcaa.F Go.Proofs.YtoekmdcldfmmcaaW.PrintWords Go.Proofs.YtoekmdcldfmmcaaW.PrintLast
set_option linter.unusedVariables false
set_option linter.unusedSimpArgs false
theorem filter_first {p : S35 → Bool} (l : List S35) (h : 0 < (l.filter p).length) : l.findIdx p < l.length ∧ rd_T35 (l.filter p) 0 = rd_T35 l (l.findIdx p : Nat) := by
  induction l with
  | nil => simp at h
  | cons x r ih =>
    rw [List.findIdx_cons]
    by_cases c : p x = true
    · rw [c, List.filter_cons_of_pos c]
      refine ⟨by simp, ?_⟩
      rfl
    · have c' : p x = false := by simpa using c
      rw [List.filter_cons_of_neg c] at h ⊢
      obtain ⟨h1, h2⟩ := ih h
      rw [c']
      refine ⟨by simpa using h1, ?_⟩
      rw [h2]
      simp only [cond_false]
      rw [rdg h1, rdg (by simpa using h1)]
      rfl
end Go.Proofs.Ytoekmdcldfmmcaa.Pure
end
section
namespace Go.Proofs.Ytoekmdcldfmmcaa.Pure
open Go.RowKit Go.Proofs.Ytoekmdcldfmmcaa.F Go.Proofs.YtoekmdcldfmmcaaW.PrintWords Go.Proofs.YtoekmdcldfmmcaaW.PrintLast
set_option linter.unusedVariables false
set_option linter.unusedSimpArgs false
theorem filter_none {p : S35 → Bool} (l : List S35) (h : (l.filter p).length = 0) : ¬ l.findIdx p < l.length := by
  intro hlt
  have hat := List.findIdx_getElem (w := hlt)
  have hmem : l[l.findIdx p] ∈ l.filter p := List.mem_filter.mpr ⟨List.getElem_mem hlt, hat⟩
  rw [List.length_eq_zero_iff] at h
  rw [h] at hmem
  exact List.not_mem_nil hmem
end Go.Proofs.Ytoekmdcldfmmcaa.Pure
end
section
namespace Go.Proofs.Ytoekmdcldfmmcaa.Pure
open Go.RowKit Go.Proofs.Ytoekmdcldfmmcaa.F Go.Proofs.YtoekmdcldfmmcaaW.PrintWords Go.Proofs.YtoekmdcldfmmcaaW.PrintLast
set_option linter.unusedVariables false
set_option linter.unusedSimpArgs false
theorem wipesEnd (k : Nat) (hk : 300 ≤ k) (x11 x12 : List S35) (h11 : x11.length ≤ 64) (h12 : x12.length ≤ 64) (a0 a1 : Int) (l : List S35) : L05_RingWipes.j1 k true x11 x12 x11 0 6 false a0 a1 l a0 a1 x12 = some true := by
  obtain ⟨k, rfl⟩ : ∃ k', k = k' + 1 := ⟨k - 1, by omega⟩
  simp only [L05_RingWipes.j1]
  rw [if_neg (by decide), if_pos trivial, if_pos trivial, if_pos trivial, sameHeld _ k (by omega) (by omega)]
  simp only [Option.bind_some]
  rw [if_pos trivial, sameHeld _ k (by omega) (by omega)]
  simp only [Option.bind_some]
  rw [if_pos trivial, beq_self_eq_true]
end Go.Proofs.Ytoekmdcldfmmcaa.Pure
end
section
namespace Go.Proofs.Ytoekmdcldfmmcaa.Pure
open Go.RowKit Go.Proofs.Ytoekmdcldfmmcaa.F Go.Proofs.YtoekmdcldfmmcaaW.PrintWords Go.Proofs.YtoekmdcldfmmcaaW.PrintLast
set_option linter.unusedVariables false
set_option linter.unusedSimpArgs false
theorem wipesl (w : Int) (hw : wfW w = true) (a0 a1 : Int) (l : List S35) (hv : Valid a0 a1 l) (hwl : l.all (fun h => wfW h.f1) = true) : ∀ (m k i : Nat), m = l.length - i → i ≤ l.length → m + 302 ≤ k →
    L05_RingWipes.l0 k w true ((l.take i).filter (fun h => h.f1 == w)) ((l.take i).filter (fun h => !(h.f1 == w))) (i : Int) a0 a1 l = some true := by
  have hl : l.length ≤ 32 := by have := hv.2.1; have := hv.2.2.2.2.1; omega
  have hck : (ckS a0 a1 l).1 = 0 := by rw [ckS_valid hv]
  intro m
  induction m with
  | zero =>
    intro k i hm hi hk
    obtain ⟨k, rfl⟩ : ∃ k', k = k' + 1 := ⟨k - 1, by omega⟩
    obtain rfl : i = l.length := by omega
    rw [List.take_length]
    simp only [L05_RingWipes.l0]
    rw [if_neg (by omega), first_]
    simp only [Option.bind_some]
    rw [wipe_ _ _ _ _ (by simp) hwl (by simp [hw])]
    simp only [Option.bind_some]
    have e1 : l.filter (fun h => !(([w] : List Int).contains h.f1)) = l.filter (fun h => !(h.f1 == w)) := by
      congr 1; funext h; by_cases hq : h.f1 = w <;> simp [hq]
    have e2 : l.filter (fun h => ([w] : List Int).contains h.f1) = l.filter (fun h => h.f1 == w) := by
      congr 1; funext h; by_cases hq : h.f1 = w <;> simp [hq]
    have hwp : wipeS a0 a1 l [w] = (a0, a1, l.filter (fun h => !(h.f1 == w)), l.filter (fun h => h.f1 == w), 0) := by
      unfold wipeS
      rw [if_pos hck, e1, e2]
    rw [hwp]
    dsimp only
    rw [first_]
    simp only [Option.bind_some]
    have hsub : (l.filter (fun h => !(h.f1 == w))).Sublist l := List.filter_sublist
    have hv2 : Valid a0 a1 (l.filter (fun h => !(h.f1 == w))) := by
      obtain ⟨v1, v2, v3, v4, v5, v6, v7⟩ := hv
      have := hsub.length_le
      exact ⟨v1, v2, v3, v4, by omega, v6.sublist hsub, fun x hx => v7 x (hsub.subset hx)⟩
    have h3 : firstS a0 a1 (l.filter (fun h => !(h.f1 == w))) w = (0, 0, 6) := by
      unfold firstS
      rw [if_pos (by rw [ckS_valid hv2]), if_neg]
      exact filter_none _ (by rw [List.filter_filter]; simp)
    rw [h3]
    dsimp only
    have l11 : (l.filter (fun h => h.f1 == w)).length ≤ 64 := Nat.le_trans (List.length_filter_le _ _) (by omega)
    have l12 : (l.filter (fun h => !(h.f1 == w))).length ≤ 64 := Nat.le_trans (List.length_filter_le _ _) (by omega)
    have hend := wipesEnd k (by omega) _ _ l11 l12 a0 a1 l
    by_cases c : (l.filter (fun h => h.f1 == w)).length = 0
    · have h1 : firstS a0 a1 l w = (0, 0, 6) := by
        unfold firstS
        rw [if_pos hck, if_neg (filter_none _ c)]
      rw [if_pos (by omega), h1]
      dsimp only
      rw [if_pos (show (6 : Int) = 6 from rfl), if_neg (by omega)]
      exact hend
    · obtain ⟨g1, g2⟩ := filter_first l (Nat.pos_of_ne_zero c)
      have h1 : firstS a0 a1 l w = ((rd_T35 l (l.findIdx (fun h => h.f1 == w) : Nat)).f0, (rd_T35 l (l.findIdx (fun h => h.f1 == w) : Nat)).f1, 0) := by
        unfold firstS
        rw [if_pos hck, if_pos g1]
      rw [if_neg (by omega), if_pos (by omega), h1]
      dsimp only
      rw [if_pos (show (0 : Int) = 0 from rfl), if_pos (by omega), g2]
      simp only [beq_self_eq_true, Bool.not_true, Bool.or_self]
      exact hend
  | succ m ih =>
    intro k i hm hi hk
    obtain ⟨k, rfl⟩ : ∃ k', k = k' + 1 := ⟨k - 1, by omega⟩
    have hlt : i < l.length := by omega
    have hnx := ih k (i + 1) (by omega) (by omega) (by omega)
    have f1 := filter_step (p := fun h => h.f1 == w) hlt
    have f2 := filter_step (p := fun h => !(h.f1 == w)) hlt
    simp only [L05_RingWipes.l0]
    rw [if_pos (by omega), if_pos (by omega)]
    by_cases c : (rd_T35 l (i : Int)).f1 = w
    · rw [if_pos c, if_pos (by have := filter_le (p := fun h => h.f1 == w) (i := i) (l := l) (by omega); omega), w_next (by omega)]
      rw [if_pos (beq_iff_eq.mpr c)] at f1
      rw [if_neg (by simp [c]), List.append_nil] at f2
      rw [f1, f2] at hnx
      exact hnx
    · rw [if_neg c, if_pos (by have := filter_le (p := fun h => !(h.f1 == w)) (i := i) (l := l) (by omega); omega), w_next (by omega)]
      rw [if_neg (by simpa using c), List.append_nil] at f1
      rw [if_pos (by simpa using c)] at f2
      rw [f1, f2] at hnx
      exact hnx
end Go.Proofs.Ytoekmdcldfmmcaa.Pure
end
section
namespace Go.Proofs.Ytoekmdcldfmmcaa.Pure
open Go.RowKit Go.Proofs.Ytoekmdcldfmmcaa.F Go.Proofs.YtoekmdcldfmmcaaW.PrintWords Go.Proofs.YtoekmdcldfmmcaaW.PrintLast
set_option linter.unusedVariables false
set_option linter.unusedSimpArgs false
theorem RingWipes : L05_RingWipes.Pure := by
  intro a0 l1 a2 h0 h1 h2 h3 h4
  obtain ⟨k, hk⟩ : ∃ k, 500 ≤ k := ⟨500, Nat.le_refl _⟩
  refine ⟨k, ?_⟩
  have hkn : L05_RingKnown.f k = some true := F.le_fuel L05_RingKnown.mono (by omega) ringKnown_300
  obtain ⟨size, b0, b1, l, g, n, hm, hI, hn⟩ := made a0 l1 k (by omega)
  obtain ⟨t, ht, ht0, ht1⟩ := mod_some a2 5 (by omega) (by omega)
  unfold L05_RingWipes.f
  rw [hkn, hm]
  simp only [Option.bind_some]
  rw [ht]
  simp only [Option.bind_some]
  rw [if_pos trivial]
  have hl : l.length ≤ 32 := by have := hI.2.1.2.1; have := hI.2.1.2.2.2.2.1; omega
  exact wipesl t (wf_small (by omega) (by omega)) b0 b1 l hI.2.1 hI.2.2.2.2 l.length k 0 rfl (Nat.zero_le _) (by omega)
end Go.Proofs.Ytoekmdcldfmmcaa.Pure
end
section
namespace Go.Proofs.YtoekmdcldfmmcaaW.PrintWords
open Go.ChangeShapes Go.WideShapes
/-- A row's slice of whole numbers is no longer than its weight allows. -/
theorem sized_ints {H : Type} {enc : TypeId × Value → H} {P : Program} {W : World} {base : Nat} {spare : Nat → Bool} {held : Bool} {t e : TypeId} {k : IntKind} {a : Option Addr} {len cap : Nat} {d : DataW H} {ps : List MemPlace} {ts : List TypeId} {ds : List (DataW H)} {j : Nat}
    (hsz : (DataW.weightsEach P ts ds).all (· ≤ reachBytes) = true) (ht : ts[j]? = some t) (hd : ds[j]? = some d) (hu : P.underlying t = some (.slice e)) (he : P.underlying e = some (.int k)) (hc : P.cellsOf e = 1) {B : Nat} (hB : P.bytesOf e = B)
    (h : DataW.Trod enc P W base spare held t (.slice a len cap) d ps) : len * B ≤ 140737488351232 := by
  obtain ⟨fuel, hf⟩ := h
  rcases open_ints hu he hc hf with ⟨hcs, _⟩ | ⟨x, l, c, zs, hcs, _, hl, _, hz, hx, _, _⟩
  · simp [Value.cells] at hcs
    obtain ⟨rfl, rfl, rfl⟩ := hcs
    simp
  · simp [Value.cells] at hcs
    obtain ⟨rfl, rfl, rfl⟩ := hcs
    obtain ⟨hx, _⟩ := Prod.mk.inj hx
    subst hx
    have z := sized_slice hsz ht hd hu
    rw [hB] at z
    have hl2 : len ≤ zs.length := by
      rw [hz]
      split
      · exact hl
      · exact Nat.le_refl _
    have h1 : (lits (H := H) k (zs.take len)).length + (lits (H := H) k (zs.drop len)).length = zs.length := by
      simp [lits]
      omega
    rw [h1] at z
    exact Nat.le_trans (Nat.mul_le_mul_right _ hl2) z
end Go.Proofs.YtoekmdcldfmmcaaW.PrintWords
end
section
/- The statement RingWipes holds: the law's function answers true at every input, and the input reads as it did. No condition. (Written by fork.py over the kit's print.) -/
namespace Go.Proofs.Ytoekmdcldfmmcaa.ringWipes
open Go.ChangeShapes Go.WideShapes Go.ChangeAt Go.RowKit
open Go.ChangeMaps (open_string shut_string)
set_option linter.unusedVariables false
theorem own : ownKnob Try.prog.godebug = none := by kernel_rfl
theorem laidOut : laidOutB Try.prog = true := by kernel_rfl
def IsRow (k : IntKind) (w : World) (a : Option Addr) (len cap : Nat) (zs : List Int) : Prop :=
  (a = none ∧ len = 0 ∧ cap = 0 ∧ zs = []) ∨
  ∃ x, a = some x ∧ len ≤ cap ∧ cap ≤ maxLen ∧ zs.length = cap ∧ (∀ i, i < zs.length → w.cell? (x.add i) = some (.int k (zs.getD i 0))) ∧ ∀ n ∈ zs, (Lit.int k n).wf = true
set_option maxRecDepth 100000 in
theorem lifted (os : Os) (started : os.Started) (H : Type) (enc : TypeId × Value → H) :
    ReturnsInHanded {} Try.checked os 8 .any (Rows.ringWipesSpec.pre6 enc Try.prog Try.f8 Rows.ringWipesRow.domain false) (Rows.ringWipesSpec.post enc Try.prog Try.f8 false true false false) := by
  refine returnsInHanded_of_change_sized (C := Try.checked) own started (by kernel_rfl) Try.func8
    (ChangeSpec.witness6 (enc := enc) (C := Try.checked) false ⟨#[], #[.int .i64 0, .slice none 0 0, .int .i64 0], []⟩ 8 (by kernel_rfl) (by kernel_rfl) (by kernel_rfl) (by kernel_rfl)) ?_
  intro W base args ds gs before hval0 hW hcnd hsz0 _
  have hsz : (DataW.weightsEach Try.prog (Try.f8.params.toList ++ Rows.ringWipesSpec.plain.varTypes Try.prog) (ds ++ gs)).all (· ≤ reachBytes) = true := hsz0
  have hval : ∀ (j : Nat) t v, Try.f8.params[j]? = some t → args[j]? = some v → Value.okWide Try.prog W .any base t v := hval0
  have hW' := hW
  obtain ⟨p, q, hA0, hV, rfl, hfz, hnd⟩ := hW
  have hA : DataW.TrodAll enc Try.prog W 0 (fun _ => true) true Try.f8.params.toList args.toList ds p := hA0
  rw [Try.params8] at hA hval hsz
  obtain ⟨v0, vs0, d0, ds0, p0, q0, hargs, rfl, rfl, h0, r0⟩ := trodAll_cons hA
  obtain ⟨v1, vs1, d1, ds1, p1, q1, rfl, rfl, rfl, h1, r1⟩ := trodAll_cons r0
  obtain ⟨v2, vs2, d2, ds2, p2, q2, rfl, rfl, rfl, h2, r2⟩ := trodAll_cons r1
  obtain ⟨rfl, rfl, rfl⟩ := trodAll_nil r2
  obtain rfl : args = #[v0, v1, v2] := by cases args; simp_all
  obtain ⟨rfl, rfl⟩ := trodVars_none hV
  obtain ⟨a0, rfl, rfl, rfl, w0⟩ := open_int Try.underlying3 (hval 0 3 v0 rfl rfl) h0
  obtain ⟨a1, len1, cap1, rfl⟩ := okWide_slice Try.underlying26 (hval 1 26 v1 rfl rfl)
  have k1 := h1
  have lt1 : ∀ x ∈ p1, x.block < W.heap.size := by obtain ⟨m, hm⟩ := k1; exact DataW.trod_lt m _ _ _ hm
  obtain ⟨z1, w1⟩ : ∃ zs, IsRow .i64 W a1 len1 cap1 zs := by
    obtain ⟨fuel, hf⟩ := h1
    rcases open_ints Try.underlying26 Try.underlying3 (by kernel_rfl) hf with ⟨hcs, _⟩ | ⟨x, l, c, zs, hcs, _, hl, hm, hz, _, hcell, hwz⟩
    · simp [Value.cells] at hcs
      obtain ⟨rfl, rfl, rfl⟩ := hcs
      exact ⟨[], .inl ⟨rfl, rfl, rfl, rfl⟩⟩
    · simp [Value.cells] at hcs
      obtain ⟨rfl, rfl, rfl⟩ := hcs
      exact ⟨zs, .inr ⟨_, rfl, hl, hm, by simpa using hz, hcell, hwz⟩⟩
  have y1 : len1 * 8 ≤ 140737488351232 := Go.Proofs.YtoekmdcldfmmcaaW.PrintWords.sized_ints hsz (j := 1) (t := 26) rfl rfl Try.underlying26 Try.underlying3 (by kernel_rfl) (by kernel_rfl) h1
  obtain ⟨a2, rfl, rfl, rfl, w2⟩ := open_int Try.underlying3 (hval 2 3 v2 rfl rfl) h2
  clear hA0 hval0 hsz0 hsz
  refine (F.L05_RingWipes.walk Pure.RingWipes a0 a1 len1 cap1 z1 a2 W w0 w1 y1 w2).mono fun e W' ⟨he, bel⟩ => ?_
  subst he
  exact ⟨_, rfl, _, _, _, [], _, [], hW', trodAll_mk1 (shut_bool Try.underlying4 _), (trodAll_cons_mk (shut_int Try.underlying3 w0) (trodAll_cons_mk (Below.trod laidOut (by kernel_rfl) (of_decide_eq_true (by kernel_rfl)) k1 bel lt1) (trodAll_cons_mk (shut_int Try.underlying3 w2) trodAll_mk0))), rfl, bel.frame _, fun h => by cases h⟩
theorem over : Rows.ringWipesRow.holds Try.pinned (OpenSpec.ofChange Rows.ringWipesSpec) :=
  OpenClaim.holds_of_wide 8 Try.f8 rfl rfl rfl rfl rfl rfl rfl ⟨rfl, rfl, rfl, rfl, rfl⟩ rfl rfl rfl rfl rfl (by kernel_rfl) Try.func8 (by show joinedFacts Try.prog 8 Try.f8 Rows.ringWipesSpec Rows.ringWipesRow = true; unfold joinedFacts; rw [may_enter, lifts_not, make_cut]; kernel_rfl)
    (of_decide_eq_true (by kernel_rfl)) (by unfold Func.isWrapper; first | (rw [if_pos (by decide +kernel)]; kernel_rfl) | (rw [if_neg (by decide +kernel)]; exact ⟨rfl, rfl⟩))
    (fun os started H enc _ => lifted os started H enc)
theorem proved : Rows.RingWipesSaid := over
#print axioms proved
end Go.Proofs.Ytoekmdcldfmmcaa.ringWipes
namespace Go.Proofs.Ytoekmdcldfmmcaa
/-- The row, under a short name, for the claim. -/
theorem ringWipes_holds : Rows.RingWipesSaid := ringWipes.proved
end Go.Proofs.Ytoekmdcldfmmcaa
end

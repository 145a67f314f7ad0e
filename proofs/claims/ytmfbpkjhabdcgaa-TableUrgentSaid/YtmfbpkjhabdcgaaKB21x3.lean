/- Part 3 of B21: what the functions reckon, step by step, and plain laws. No condition. -/
import Derived.Test.YtmfbpkjhabdcgaaKB21x2
section
/- Plain laws of the tables that the statements of chapter 21 make of numbers. No program in sight. -/
namespace Go.Proofs.Ytmfbpkjhabdcgaa.F
open Go.RowKit Go.Proofs.YtmfbpkjhabdcgaaW.PrintWords Go.Proofs.YtmfbpkjhabdcgaaW.PrintLast Go.Proofs.YtmfbpkjhabdcgaaW.PrintMore
set_option linter.unusedVariables false
set_option linter.unusedSimpArgs false

theorem call_law (n d : Int) (h0 : 0 ≤ n) (h1 : n < 4194304) (hd : 0 ≤ d) (hd' : d ≤ 1099511627776) : ∃ c : S29, L21_call.f n d = some (c.f0, c.f1, c.f2, c.f3) ∧ okC c ∧ c.f3 = d ∧ 0 ≤ c.f1 ∧ c.f1 < 6 ∧ c.f2 ≤ 3 := by
  unfold L21_call.f
  obtain ⟨t, ht, t0, t1⟩ := mod_law n 1048576 (by omega) (by omega)
  rw [ht]
  simp only [Option.bind_some]
  rw [tmod_pos t0, Int.tdiv_eq_ediv_of_nonneg t0, Int.tdiv_eq_ediv_of_nonneg t0, wrap_id (x := t / 3) (by omega) (by omega), wrap_id (x := t / 9) (by omega) (by omega), tmod_pos (a := t / 3) (by omega), tmod_pos (a := t / 9) (by omega)]
  rw [wrap_id (x := 1 + t / 3 % 3) (by omega) (by omega)]
  by_cases h3 : t % 3 = 0
  · rw [if_pos h3]
    refine ⟨⟨3, t / 9 % 6, 1 + t / 3 % 3, d⟩, rfl, ?_, rfl, ?_, ?_, ?_⟩
    · unfold okC errC; simp only; rw [if_neg (by omega), if_neg (by omega), if_neg (by omega)]
    all_goals (simp only; omega)
  · rw [if_neg h3]
    refine ⟨⟨t % 3, t / 9 % 6, 0, d⟩, rfl, ?_, rfl, ?_, ?_, ?_⟩
    · unfold okC errC; simp only; rw [if_neg (by omega), if_neg (by omega), if_neg (by omega)]
    all_goals (simp only; omega)

theorem there_law (x1 : List Int) (at_ i code : Int) (a : Int) (l : List S29) (c : S29) (a' : Int) (l' : List S29) (hl : l.length ≤ 64) : ∀ (d k j : Nat) (b : Bool), j + d = l.length →
    L21_made.l1 (k + d) x1 0 at_ i code (l.length : Int) b j a l c.f0 c.f1 c.f2 c.f3 a' l' = L21_made.l1 k x1 0 at_ i code (l.length : Int) (b || (l.drop j).any (fun x => sameKey x c)) (l.length : Nat) a l c.f0 c.f1 c.f2 c.f3 a' l'
  | 0, k, j, b, h => by
    rw [List.drop_eq_nil_of_le (by omega), show j = l.length by omega]
    simp
  | d + 1, k, j, b, h => by
    have ih := there_law x1 at_ i code a l c a' l' hl d k (j + 1)
    have hj : j < l.length := by omega
    rw [show k + (d + 1) = (k + d) + 1 by omega]
    rw [show ∀ (k' : Nat) (b : Bool), L21_made.l1 (k' + 1) x1 0 at_ i code (l.length : Int) b j a l c.f0 c.f1 c.f2 c.f3 a' l' = (if b = true then (L21_made.l1 k' x1 0 at_ i code (l.length : Int) true ((j + 1 : Nat) : Int) a l c.f0 c.f1 c.f2 c.f3 a' l') else (L21_made.l1 k' x1 0 at_ i code (l.length : Int) (sameKey l[j] c) ((j + 1 : Nat) : Int) a l c.f0 c.f1 c.f2 c.f3 a' l')) from fun k' b => by
      rw [L21_made.l1]
      have er : rd_T29 l (j : Int) = l[j] := by simp [rd_T29, List.getD_eq_getElem?_getD, List.getElem?_eq_getElem hj]
      rw [if_pos (by omega), if_pos (by omega), if_pos (by omega), er, wrap_id (by omega) (by omega)]
      unfold sameKey
      split
      · rfl
      · split
        · rename_i h1
          split
          · rename_i h2
            simp [h1, h2]
          · rename_i h2
            have e2 : (l[j].f1 == c.f1) = false := beq_eq_false_iff_ne.mpr h2
            rw [e2]; simp
        · rename_i h1
          have e1 : (l[j].f0 == c.f0) = false := beq_eq_false_iff_ne.mpr h1
          rw [e1]; simp]
    rw [List.drop_eq_getElem_cons hj, List.any_cons]
    by_cases hb : b = true
    · rw [if_pos hb, ih true (by omega), hb]
      simp
    · rw [if_neg hb, ih _ (by omega)]
      have : b = false := by simpa using hb
      subst this
      simp

/-- A table that 'made' returns. -/
structure Made (a : Int) (l : List S29) (T : Int) : Prop where
  valid : ValidT a l
  cap : a ≤ 12
  t0 : 0 ≤ T
  late : ∀ x ∈ l, x.f3 ≤ T
  low : ∀ x ∈ l, 0 ≤ x.f1 ∧ x.f1 < 6 ∧ x.f2 ≤ 3

theorem len_facts (l : List S29) (c : S29) (h : l.length ≤ 64) : wrap64 ((l.length : Int) + 1) = (l.length : Int) + 1 ∧ (0 : Int) ≤ (l.length : Int) ∧ (l.length : Int) < (l.length : Int) + 1 ∧ ((l ++ [c]).length : Int) = (l.length : Int) + 1 ∧ rd_T29 (l ++ [c]) (l.length : Int) = c :=
  ⟨wrap_id (by omega) (by omega), by omega, by omega, by simp, rd_app l c []⟩
theorem same_self (c : S29) : ((!(c.f0 == c.f0)) || ((!(c.f1 == c.f1)) || ((!(c.f2 == c.f2)) || (!(c.f3 == c.f3))))) = false := by simp

theorem made_round (x1 : List Int) : ∀ (d i k : Nat) (T : Int) (a : Int) (l : List S29), i + d = 20 → T ≤ 3 * i → Made a l T → 40 * d + 10 ≤ k →
    ∃ a' l' T', L21_made.l0 k x1 0 T i a l = some (a', l', true) ∧ Made a' l' T' ∧ T' ≤ 60 := by
  intro d
  induction d with
  | zero =>
    intro i k T a l hi hT hM hk
    obtain ⟨k, rfl⟩ : ∃ j, k = j + 2 := ⟨k - 2, by omega⟩
    refine ⟨a, l, T, ?_, hM, by omega⟩
    unfold L21_made.l0
    rw [if_neg (show ¬ (i : Int) < 20 by omega)]
    have e : L21_made.j1 (k + 1) x1 0 T i false a l = some (a, l, true) := by
      unfold L21_made.j1
      rw [if_neg (by decide), check_valid hM.valid]
      rfl
    rw [e]
    split <;> rfl
  | succ d ih =>
    intro i k T a l hi hT hM hk
    obtain ⟨k, rfl⟩ : ∃ j, k = j + 2 := ⟨k - 2, by omega⟩
    have hT0 := hM.t0
    unfold L21_made.l0
    by_cases hlt : (i : Int) < (x1.length : Int)
    case neg =>
      rw [if_neg hlt]
      refine ⟨a, l, T, ?_, hM, by omega⟩
      unfold L21_made.j1
      rw [if_neg (by decide), check_valid hM.valid]
      rfl
    case pos =>
    rw [if_pos hlt, if_pos (show (i : Int) < 20 by omega)]
    rw [show ((0 : Int) == 0) = true from rfl]
    unfold L21_made.j1
    rw [if_pos rfl, if_pos (by omega), if_pos hlt]
    obtain ⟨t, ht, t0, t1⟩ := mod_law (rd x1 i) 16777216 (by omega) (by omega)
    rw [ht]
    simp only [Option.bind_some]
    rw [tmod_pos t0, Int.tdiv_eq_ediv_of_nonneg t0, wrap_id (x := t / 4) (by omega) (by omega), wrap_id (x := T + t % 4) (by omega) (by omega)]
    obtain ⟨c, hc, hok, h3, h10, h11, h2⟩ := call_law (t / 4) (T + t % 4) (by omega) (by omega) (by omega) (by omega)
    rw [hc]
    simp only [Option.bind_some]
    have hlate : ∀ x ∈ l, x.f3 ≤ c.f3 := fun x hx => by have := hM.late x hx; omega
    rw [put_valid hM.valid hok hlate]
    have hlen := hM.valid.len
    have hcap := hM.cap
    obtain ⟨k, rfl⟩ : ∃ j, k = (j + 2) + l.length := ⟨k - 2 - l.length, by omega⟩
    have hl64 : l.length ≤ 64 := by omega
    have hl0 : 0 + l.length = l.length := Nat.zero_add _
    have hM' : Made a l (T + t % 4) := ⟨hM.valid, hM.cap, by omega, fun x hx => by have := hM.late x hx; omega, hM.low⟩
    have hnext := fun (a' : Int) (l' : List S29) (h : Made a' l' (T + t % 4)) => ih (i + 1) k (T + t % 4) a' l' (by omega) (by omega) h (by omega)
    have hT4 : 0 ≤ T + t % 4 := by omega
    have hfull : ¬ (l.length : Int) < (l.length : Int) := by omega
    have hlt' : ¬ (l.length : Int) = a → (l.length : Int) < a := by omega
    have hcc : c.f3 ≤ T + t % 4 := by omega
    have hll : ∀ x ∈ l, x.f3 ≤ T + t % 4 := fun x hx => by have := hM.late x hx; omega
    have hwi : wrap64 ((i : Int) + 1) = ((i + 1 : Nat) : Int) := by rw [wrap_id (by omega) (by omega)]; omega
    clear ih hk hi hT hlen t0 t1 hlt h3
    obtain ⟨hwl, q0, q1, el, er⟩ := len_facts l c hl64
    have eb : ((1 : Int) != 1) = false := by decide
    have qs := same_self c
    simp only [Option.bind_some]
    generalize hP : (if l.any (fun x => sameKey x c) = true then (a, l, (2 : Int), (0 : Int)) else if (l.length : Int) = a then (a, l, 3, 0) else (a, l ++ [c], 1, 0)) = P
    have hP4 : P.2.2.2 = 0 := by
      rw [← hP]; split
      · rfl
      · split <;> rfl
    rw [hP4]
    have := there_law x1 (T + t % 4) i P.2.2.1 a l c P.1 P.2.1 hl64 l.length (k + 2) 0 false hl0
    rw [show ((0 : Nat) : Int) = (0 : Int) from rfl] at this
    rw [this]
    rw [L21_made.l1, if_neg hfull, if_pos rfl, List.drop_zero, Bool.false_or]
    clear this hP4
    by_cases hany : l.any (fun x => sameKey x c) = true
    · rw [if_pos hany] at hP
      subst hP
      rw [if_pos hany, if_pos rfl, L21_made.j3, if_neg Bool.false_ne_true, if_neg (show ¬ (2 : Int) = 1 by decide), if_pos rfl, hwi]
      exact hnext a l hM'
    · rw [if_neg hany] at hP
      rw [if_neg hany]
      by_cases hf : (l.length : Int) = a
      · rw [if_pos hf] at hP
        subst hP
        have hf' : ¬ (l.length : Int) < a := by rw [← hf]; exact hfull
        rw [if_pos hf, if_pos rfl, if_neg hf', L21_made.j3, if_neg Bool.false_ne_true, if_neg (show ¬ (3 : Int) = 1 by decide), if_pos rfl, hwi]
        exact hnext a l hM'
      · rw [if_neg hf] at hP
        subst hP
        rw [if_neg hf, if_pos (hlt' hf)]
        dsimp only
        rw [eb]
        rw [L21_made.j3]
        rw [if_neg Bool.false_ne_true, if_pos rfl, hwl, el, if_pos rfl, if_pos q0, if_pos q1, hwi, er, qs, if_neg Bool.false_ne_true]
        refine hnext a (l ++ [c]) ⟨valid_put hM.valid hok hlate hany hf, hM.cap, hT4, fun x hx => ?_, fun x hx => ?_⟩
        · rcases List.mem_append.1 hx with hx | hx
          · exact hll x hx
          · rw [List.mem_singleton] at hx; subst hx; exact hcc
        · rcases List.mem_append.1 hx with hx | hx
          · exact hM.low x hx
          · rw [List.mem_singleton] at hx; subst hx; exact ⟨h10, h11, h2⟩

theorem made_law {k : Nat} (hk : 810 ≤ k) (a0 : Int) (l1 : List Int) : ∃ a l T, L21_made.f k a0 l1 = some (a, l, true) ∧ Made a l T ∧ T ≤ 60 := by
  unfold L21_made.f
  obtain ⟨t, ht, t0, t1⟩ := mod_law a0 12 (by omega) (by omega)
  rw [ht]
  simp only [Option.bind_some]
  rw [wrap_id (by omega) (by omega), new_law (by omega) (by omega)]
  simp only [Option.bind_some]
  exact made_round l1 20 0 k 0 (1 + t) [] (by omega) (by omega) ⟨valid_nil (by omega) (by omega), by omega, by omega, fun _ h => (List.not_mem_nil h).elim, fun _ h => (List.not_mem_nil h).elim⟩ (by omega)

end Go.Proofs.Ytmfbpkjhabdcgaa.F
end

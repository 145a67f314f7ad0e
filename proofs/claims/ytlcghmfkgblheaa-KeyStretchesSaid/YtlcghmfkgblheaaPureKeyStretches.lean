/- The plain law KeyStretches of chapter 22: the printed function answers true at every state, history and part. No condition. -/
import Derived.Test.YtlcghmfkgblheaaF11
import Derived.Test.YtlcghmfkgblheaaPKey
namespace Go.Proofs.Ytlcghmfkgblheaa.Pure
open Go.RowKit Go.Proofs.Ytlcghmfkgblheaa.F Go.Proofs.YtlcghmfkgblheaaW.PrintWords Go.Proofs.YtlcghmfkgblheaaW.PrintLast Go.Proofs.YtlcghmfkgblheaaW.PrintMore
set_option linter.unusedVariables false

theorem rd_get {l : List Int} {i : Nat} (h : i < l.length) : rd l (i : Int) = l[i] := by simp [rd, List.getD_eq_getElem?_getD, List.getElem?_eq_getElem h]
theorem in_law (a b c : Int) : key_in.f a b c = some (decide (b ≤ a ∧ a ≤ c)) := by
  unfold key_in.f
  by_cases h : a ≥ b
  · rw [if_pos h]; simp; omega
  · rw [if_neg h]; simp; omega
theorem tick_law (a : Int) : R22_tick.f a = some (decide (0 ≤ a ∧ a ≤ 1099511627776)) := by
  unfold R22_tick.f
  by_cases h : a ≥ 0
  · rw [if_pos h]; simp; omega
  · rw [if_neg h]; simp; omega

/-- What is in order up to i is in order up to i + 1 where the last two are. -/
theorem pair_step {α : Type} (g : α → Int) (R : Int → Int → Prop) (htr : ∀ a b c, R a b → R b c → R a c) (x : List α) (i : Nat) (hi : i < x.length) (hp : (x.take i).Pairwise (fun a b => R (g a) (g b)))
    (hl : ∀ j, (h : j + 1 = i) → R (g x[j]) (g x[i])) : (x.take (i + 1)).Pairwise (fun a b => R (g a) (g b)) := by
  rw [List.take_succ_eq_append_getElem hi]
  refine List.pairwise_append.2 ⟨hp, List.pairwise_singleton _ _, fun a ha b hb => ?_⟩
  rw [List.mem_singleton] at hb
  subst hb
  cases i with
  | zero => simp at ha
  | succ j =>
    rw [List.take_succ_eq_append_getElem (by omega)] at hp ha
    have hj := hl j rfl
    rcases List.mem_append.1 ha with ha | ha
    · exact htr _ _ _ ((List.pairwise_append.1 hp).2.2 a ha _ (List.mem_singleton.2 rfl)) hj
    · rw [List.mem_singleton] at ha
      rw [ha]; exact hj

theorem check_both (x : List Int) (life last : Int) (hx : x.length ≤ 20) : ∀ (m k k' i : Nat), i + m = x.length → m + 1 ≤ k → 2 * m + 1 ≤ k' → (x.take i).Pairwise (· < ·) →
    ∃ v, key_Check.l0 k x x.length i x life last = some v ∧ R22_Check.l0 k' i x life last = some v ∧ (v = 0 → x.Pairwise (· < ·) ∧ 1 ≤ life ∧ life ≤ 100000) := by
  intro m
  induction m with
  | zero =>
    intro k k' i h1 h2 h3 hp
    obtain ⟨k, rfl⟩ : ∃ j, k = j + 1 := ⟨k - 1, by omega⟩
    obtain ⟨k', rfl⟩ : ∃ j, k' = j + 1 := ⟨k' - 1, by omega⟩
    unfold key_Check.l0 R22_Check.l0
    rw [if_neg (by omega), if_neg (by omega), in_law, in_law, tick_law]
    rw [List.take_of_length_le (by omega)] at hp
    simp only [Option.bind_some]
    by_cases a : life < 1
    · rw [if_pos a, if_neg (by simp; omega)]
      exact ⟨2, rfl, rfl, fun h => by omega⟩
    · rw [if_neg a]
      by_cases b : life > 100000
      · rw [if_pos b, if_neg (by simp; omega)]
        exact ⟨2, rfl, rfl, fun h => by omega⟩
      · rw [if_neg b, if_pos (by simp; omega)]
        by_cases c : last = -1
        · rw [if_pos c, if_pos (by simp; omega)]
          exact ⟨0, rfl, rfl, fun _ => ⟨hp, by omega, by omega⟩⟩
        · rw [if_neg c]
          by_cases d : 0 ≤ last ∧ last ≤ 1099511627776
          · rw [if_pos (by simp; omega), if_pos (by simp; omega)]
            exact ⟨0, rfl, rfl, fun _ => ⟨hp, by omega, by omega⟩⟩
          · rw [if_neg (by simp; omega), if_neg (by simp; omega)]
            exact ⟨2, rfl, rfl, fun h => by omega⟩
  | succ m ih =>
    intro k k' i h1 h2 h3 hp
    obtain ⟨k, rfl⟩ : ∃ j, k = j + 1 := ⟨k - 1, by omega⟩
    obtain ⟨k', rfl⟩ : ∃ j, k' = j + 1 + 1 := ⟨k' - 2, by omega⟩
    have hi : i < x.length := by omega
    unfold key_Check.l0 R22_Check.l0
    have e1 : (i : Int) < (x.length : Int) := by omega
    have e2 : (0 : Int) ≤ (i : Int) := by omega
    have ew : wrap64 ((i : Int) + 1) = ((i + 1 : Nat) : Int) := by rw [wrap_id (by omega) (by omega)]; omega
    simp only [if_pos e1, if_pos e2, rd_get hi, in_law, Option.bind_some, ew]
    by_cases a : 1 ≤ x[i] ∧ x[i] ≤ 99
    · have a1 : ¬ x[i] < 1 := by omega
      have a2 : decide (x[i] > 99) = false := decide_eq_false (by omega)
      have a3 : decide (1 ≤ x[i] ∧ x[i] ≤ 99) = true := decide_eq_true a
      simp only [a3, if_true, if_neg a1, a2]
      unfold R22_Check.j1
      simp only [Bool.false_eq_true, if_false, if_pos e1, if_pos e2, ew]
      by_cases hi0 : i = 0
      · subst hi0
        have e3 : ¬ ((0 : Nat) : Int) > 0 := by omega
        simp only [if_neg e3]
        have := ih k k' 1 (by omega) (by omega) (by omega) (by
          have := pair_step id (· < ·) (fun _ _ _ => Int.lt_trans) x 0 hi (by simp) (fun j h => by omega)
          simpa using this)
        simpa using this
      · obtain ⟨j, rfl⟩ : ∃ j, i = j + 1 := ⟨i - 1, by omega⟩
        have ej : wrap64 (((j + 1 : Nat) : Int) - 1) = (j : Nat) := by rw [wrap_id (by omega) (by omega)]; omega
        have e3 : ((j + 1 : Nat) : Int) > 0 := by omega
        have e4 : (0 : Int) ≤ (j : Int) := by omega
        have e5 : (j : Int) < (x.length : Int) := by omega
        have hjl : j < x.length := by omega
        simp only [if_pos e3, ej, if_pos e4, if_pos e5, rd_get hjl, rd_get hi]
        by_cases b : x[j + 1] ≤ x[j]
        · rw [if_pos b, if_pos b]
          exact ⟨8, rfl, rfl, fun h => by omega⟩
        · rw [if_neg b, if_neg b]
          have := ih k k' (j + 1 + 1) (by omega) (by omega) (by omega) (pair_step id (· < ·) (fun _ _ _ => Int.lt_trans) x (j + 1) hi hp (fun j' h => by
            obtain rfl : j' = j := by omega
            show x[j'] < x[j' + 1]
            omega))
          exact this
    · have a3 : decide (1 ≤ x[i] ∧ x[i] ≤ 99) = false := decide_eq_false a
      simp only [a3, Bool.false_eq_true, if_false]
      refine ⟨2, rfl, ?_, fun h => by omega⟩
      by_cases b : x[i] < 1
      · rw [if_pos b]; unfold R22_Check.j1; rw [if_pos rfl]
      · rw [if_neg b, decide_eq_true (by omega)]; unfold R22_Check.j1; rw [if_pos rfl]

theorem check_eq (x : List Int) (life last : Int) (hx : x.length ≤ 20) {K K' : Nat} (hK : 21 ≤ K) (hK' : 41 ≤ K') :
    ∃ v, key_Check.f K x life last = some v ∧ R22_Check.f K' x life last = some v ∧ (v = 0 → x.length ≤ 8 ∧ x.Pairwise (· < ·) ∧ 1 ≤ life ∧ life ≤ 100000) := by
  unfold key_Check.f R22_Check.f
  by_cases h : (x.length : Int) > 8
  · rw [if_pos h, if_pos h]; exact ⟨5, rfl, rfl, fun h => by omega⟩
  · rw [if_neg h, if_neg h]
    obtain ⟨v, a, b, c⟩ := check_both x life last hx x.length K K' 0 (by omega) (by omega) (by omega) (by simp)
    exact ⟨v, a, b, fun hv => ⟨by omega, c hv⟩⟩

/-- A history in order. -/
def Stamps (l : List S37) : Prop := (∀ s ∈ l, 0 ≤ s.f0 ∧ s.f0 ≤ 1099511627776) ∧ l.Pairwise (fun a b => a.f0 ≤ b.f0)

theorem asks_both (S : List S37) (hS : S.length ≤ 2000) : ∀ (m k k' i : Nat), i + m = S.length → 2 * m + 1 ≤ k → 2 * m + 1 ≤ k' → (∀ s ∈ S.take i, 0 ≤ s.f0 ∧ s.f0 ≤ 1099511627776) → (S.take i).Pairwise (fun a b => a.f0 ≤ b.f0) →
    ∃ v, key_wrong.l0 k S S S.length i = some v ∧ R22_asks.l0 k' S i = some v ∧ (v = 0 → Stamps S) := by
  intro m
  induction m with
  | zero =>
    intro k k' i h1 h2 h3 hb hp
    obtain ⟨k, rfl⟩ : ∃ j, k = j + 1 := ⟨k - 1, by omega⟩
    obtain ⟨k', rfl⟩ : ∃ j, k' = j + 1 := ⟨k' - 1, by omega⟩
    unfold key_wrong.l0 R22_asks.l0
    rw [if_neg (by omega), if_neg (by omega)]
    rw [List.take_of_length_le (by omega)] at hb hp
    exact ⟨0, rfl, rfl, fun _ => ⟨hb, hp⟩⟩
  | succ m ih =>
    intro k k' i h1 h2 h3 hb hp
    obtain ⟨k, rfl⟩ : ∃ j, k = j + 1 + 1 := ⟨k - 2, by omega⟩
    obtain ⟨k', rfl⟩ : ∃ j, k' = j + 1 + 1 := ⟨k' - 2, by omega⟩
    have hi : i < S.length := by omega
    unfold key_wrong.l0 R22_asks.l0
    have e1 : (i : Int) < (S.length : Int) := by omega
    have e2 : (0 : Int) ≤ (i : Int) := by omega
    have ew : wrap64 ((i : Int) + 1) = ((i + 1 : Nat) : Int) := by rw [wrap_id (by omega) (by omega)]; omega
    simp only [if_pos e1, if_pos e2, rd_T37_get hi, in_law, tick_law, Option.bind_some]
    by_cases a : 1 ≤ S[i].f1 ∧ S[i].f1 ≤ 99
    · have a1 : ¬ S[i].f1 < 1 := by omega
      have a2 : ¬ S[i].f1 > 99 := by omega
      have a3 : decide (1 ≤ S[i].f1 ∧ S[i].f1 ≤ 99) = true := decide_eq_true a
      simp only [a3, if_true, if_neg a1, if_neg a2]
      unfold key_wrong.j1 R22_asks.j1
      simp only [if_pos e1, if_pos e2, ew]
      by_cases b : 0 ≤ S[i].f0 ∧ S[i].f0 ≤ 1099511627776
      · have b3 : decide (0 ≤ S[i].f0 ∧ S[i].f0 ≤ 1099511627776) = true := decide_eq_true b
        simp only [b3, Bool.not_true, Bool.false_eq_true, if_false]
        have hb' : ∀ s ∈ S.take (i + 1), 0 ≤ s.f0 ∧ s.f0 ≤ 1099511627776 := fun s hs => by
          rw [List.take_succ_eq_append_getElem hi] at hs
          rcases List.mem_append.1 hs with hs | hs
          · exact hb s hs
          · rw [List.mem_singleton] at hs; rw [hs]; exact b
        by_cases hi0 : i = 0
        · subst hi0
          have e3 : ¬ ((0 : Nat) : Int) > 0 := by omega
          simp only [if_neg e3]
          have := ih k k' 1 (by omega) (by omega) (by omega) (by simpa using hb') (by
            have := pair_step (fun s : S37 => s.f0) (· ≤ ·) (fun _ _ _ => Int.le_trans) S 0 hi (by simp) (fun j h => by omega)
            simpa using this)
          simpa using this
        · obtain ⟨j, rfl⟩ : ∃ j, i = j + 1 := ⟨i - 1, by omega⟩
          have ej : wrap64 (((j + 1 : Nat) : Int) - 1) = (j : Nat) := by rw [wrap_id (by omega) (by omega)]; omega
          have e3 : ((j + 1 : Nat) : Int) > 0 := by omega
          have e4 : (0 : Int) ≤ (j : Int) := by omega
          have e5 : (j : Int) < (S.length : Int) := by omega
          have hjl : j < S.length := by omega
          simp only [if_pos e3, ej, if_pos e4, if_pos e5, rd_T37_get hjl, rd_T37_get hi]
          by_cases c : S[j + 1].f0 < S[j].f0
          · rw [if_pos c, if_pos c]
            exact ⟨8, rfl, rfl, fun h => by omega⟩
          · rw [if_neg c, if_neg c]
            have := ih k k' (j + 1 + 1) (by omega) (by omega) (by omega) hb' (pair_step (fun s : S37 => s.f0) (· ≤ ·) (fun _ _ _ => Int.le_trans) S (j + 1) hi hp (fun j' h => by
              obtain rfl : j' = j := by omega
              show S[j'].f0 ≤ S[j' + 1].f0
              omega))
            exact this
      · have b3 : decide (0 ≤ S[i].f0 ∧ S[i].f0 ≤ 1099511627776) = false := decide_eq_false b
        simp only [b3, Bool.not_false, if_true]
        exact ⟨2, rfl, rfl, fun h => by omega⟩
    · have a3 : decide (1 ≤ S[i].f1 ∧ S[i].f1 ≤ 99) = false := decide_eq_false a
      simp only [a3, Bool.false_eq_true, if_false]
      refine ⟨2, ?_, ?_, fun h => by omega⟩
      · unfold key_wrong.j1; rw [if_pos rfl]
      · by_cases b : S[i].f1 < 1
        · rw [if_pos b]; unfold R22_asks.j1; rw [if_pos rfl]
        · rw [if_neg b, if_pos (by omega)]; unfold R22_asks.j1; rw [if_pos rfl]

theorem asks_eq (x : List Int) (life last : Int) (hx : x.length ≤ 20) (S : List S37) {K' : Nat} (hK' : 4100 ≤ K') :
    ∃ v, key_wrong.f 4096 x life last S = some v ∧ R22_asks.f K' x life last S = some v ∧ (v = 0 → x.length ≤ 8 ∧ x.Pairwise (· < ·) ∧ 1 ≤ life ∧ life ≤ 100000 ∧ S.length ≤ 2000 ∧ Stamps S) := by
  obtain ⟨v, a, b, c⟩ := check_eq x life last hx (K := 4096) (K' := K') (by omega) (by omega)
  unfold key_wrong.f R22_asks.f
  rw [a, b]
  simp only [Option.bind_some]
  by_cases hv : v = 0
  · rw [if_pos hv, if_pos hv]
    obtain ⟨c1, c2, c3, c4⟩ := c hv
    by_cases h : (S.length : Int) > 2000
    · rw [if_pos h, if_pos h]; exact ⟨4, rfl, rfl, fun h => by omega⟩
    · rw [if_neg h, if_neg h]
      obtain ⟨v', a', b', c'⟩ := asks_both S (by omega) S.length 4096 K' 0 (by omega) (by omega) (by omega) (by simp) (by simp)
      exact ⟨v', a', b', fun hv' => ⟨c1, c2, c3, c4, by omega, c' hv'⟩⟩
  · rw [if_neg hv, if_neg hv]; exact ⟨v, rfl, rfl, fun h => absurd h hv⟩


theorem less_law (a b : Int) : cmp_Less_int.f a b = some (decide (a < b)) := by
  unfold cmp_Less_int.f cmp_isNaN_int.f
  simp

theorem search_loop (x : List Int) (a : Int) (hx : x.length ≤ 20) (hp : x.Pairwise (· < ·)) : ∀ (m k lo hi : Nat), hi = lo + m → hi ≤ x.length → m + 1 ≤ k → (∀ j, (h : j < x.length) → j < lo → x[j] < a) → (∀ j, (h : j < x.length) → hi ≤ j → a ≤ x[j]) →
    ∃ r, slices_BinarySearch_int_int.l0 k x a x.length lo hi = some (r, decide (a ∈ x)) := by
  intro m
  induction m using Nat.strongRecOn with
  | _ m ih =>
    intro k lo hi h1 h2 h3 h4 h5
    obtain ⟨k, rfl⟩ : ∃ j, k = j + 1 := ⟨k - 1, by omega⟩
    unfold slices_BinarySearch_int_int.l0
    by_cases hm : m = 0
    · have e0 : ¬ ((lo : Int) < (hi : Int)) := by omega
      rw [if_neg e0]
      by_cases hl : lo < x.length
      · have e1 : (lo : Int) < (x.length : Int) := by omega
        have e2 : (0 : Int) ≤ (lo : Int) := by omega
        simp only [if_pos e1, if_pos e2, rd_get hl]
        by_cases e : x[lo] = a
        · rw [if_pos e]
          have : a ∈ x := by rw [← e]; exact List.getElem_mem hl
          exact ⟨_, by rw [decide_eq_true this]⟩
        · rw [if_neg e]
          have hn : a ∉ x := fun hm' => by
            obtain ⟨j, hj, ej⟩ := List.getElem_of_mem hm'
            by_cases hjl : j < lo
            · have := h4 j hj hjl; omega
            · by_cases hjl2 : j = lo
              · subst hjl2; exact e ej
              · have h6 := List.pairwise_iff_getElem.1 hp lo j hl hj (by omega)
                have h7 := h5 lo hl (by omega)
                omega
          refine ⟨lo, ?_⟩
          rw [decide_eq_false hn]
          simp [slices_isNaN_int.f]
      · have e1 : ¬ (lo : Int) < (x.length : Int) := by omega
        rw [if_neg e1]
        have hn : a ∉ x := fun hm' => by
          obtain ⟨j, hj, ej⟩ := List.getElem_of_mem hm'
          have := h4 j hj (by omega); omega
        exact ⟨_, by rw [decide_eq_false hn]⟩
    · have e0 : (lo : Int) < (hi : Int) := by omega
      rw [if_pos e0]
      obtain ⟨h, hh⟩ : ∃ h : Nat, h = (lo + hi) / 2 := ⟨_, rfl⟩
      have ew : wrap64 ((IntKind.u64.wrap (wrap64 ((lo : Int) + (hi : Int)))) / 2) = (h : Int) := by
        rw [wrap_id (x := (lo : Int) + hi) (by omega) (by omega)]
        have : IntKind.u64.wrap ((lo : Int) + hi) = (lo : Int) + hi := by
          simp [IntKind.wrap, IntKind.signed, IntKind.bits]
          omega
        rw [this, wrap_id (by omega) (by omega)]
        omega
      have hl : h < x.length := by omega
      have e1 : (0 : Int) ≤ (h : Int) := by omega
      have e2 : (h : Int) < (x.length : Int) := by omega
      have ew2 : wrap64 ((h : Int) + 1) = ((h + 1 : Nat) : Int) := by rw [wrap_id (by omega) (by omega)]; omega
      simp only [ew, if_pos e1, if_pos e2, rd_get hl, less_law, Option.bind_some, ew2]
      by_cases c : x[h] < a
      · rw [if_pos (by simpa using c)]
        refine ih (hi - (h + 1)) (by omega) k (h + 1) hi (by omega) h2 (by omega) (fun j hj hjl => ?_) h5
        by_cases hjh : j = h
        · subst hjh; exact c
        · have := List.pairwise_iff_getElem.1 hp j h hj hl (by omega)
          omega
      · rw [if_neg (by simpa using c)]
        refine ih (h - lo) (by omega) k lo h (by omega) (by omega) (by omega) h4 (fun j hj hjl => ?_)
        by_cases hjh : j = h
        · subst hjh; omega
        · have := List.pairwise_iff_getElem.1 hp h j hl hj (by omega)
          omega

theorem knows_mem (x : List Int) (life last a : Int) (hx : x.length ≤ 20) (hp : x.Pairwise (· < ·)) : key_knows.f 64 x life last a = some (decide (a ∈ x)) := by
  unfold key_knows.f slices_BinarySearch_int_int.f
  obtain ⟨r, hr⟩ := search_loop x a hx hp x.length 64 0 x.length (by omega) (by omega) (by omega) (fun j h hj => by omega) (fun j h hj => by omega)
  have : ((0 : Nat) : Int) = 0 := rfl
  rw [this] at hr
  rw [hr]
  rfl

theorem counts_loop (x : List Int) (a life last : Int) (hx : x.length ≤ 20) : ∀ (m k i : Nat), i + m = x.length → m + 1 ≤ k → R22_counts.l0 k a i x life last = some (decide (a ∈ x.drop i)) := by
  intro m
  induction m with
  | zero =>
    intro k i h1 h2
    obtain ⟨k, rfl⟩ : ∃ j, k = j + 1 := ⟨k - 1, by omega⟩
    unfold R22_counts.l0
    rw [if_neg (by omega), List.drop_eq_nil_iff.2 (by omega)]
    rfl
  | succ m ih =>
    intro k i h1 h2
    obtain ⟨k, rfl⟩ : ∃ j, k = j + 1 := ⟨k - 1, by omega⟩
    have hi : i < x.length := by omega
    have e1 : (i : Int) < (x.length : Int) := by omega
    have e2 : (0 : Int) ≤ (i : Int) := by omega
    have ew : wrap64 ((i : Int) + 1) = ((i + 1 : Nat) : Int) := by rw [wrap_id (by omega) (by omega)]; omega
    unfold R22_counts.l0
    simp only [if_pos e1, if_pos e2, rd_get hi, ew]
    rw [List.drop_eq_getElem_cons hi]
    by_cases c : x[i] = a
    · rw [if_pos c, decide_eq_true]
      rw [c]; exact List.mem_cons_self
    · rw [if_neg c, ih k (i + 1) (by omega) (by omega)]
      congr 1
      rw [decide_eq_decide]
      refine ⟨fun h => List.mem_cons_of_mem _ h, fun h => ?_⟩
      rcases List.mem_cons.1 h with h | h
      · exact absurd h.symm c
      · exact h
theorem counts_mem (x : List Int) (a life last : Int) (hx : x.length ≤ 20) {K : Nat} (hK : 21 ≤ K) : R22_counts.f K x life last a = some (decide (a ∈ x)) :=
  counts_loop x a life last hx x.length K 0 (by omega) (by omega)

/-- What is open, as the reference holds it. -/
def opened (f t : Int) : List S39 := if t > 0 then [⟨f, t⟩] else []

theorem stretches_both (x : List Int) (life last : Int) (hx : x.length ≤ 20) (hp : x.Pairwise (· < ·)) (hl : 1 ≤ life) (hl' : life ≤ 100000) (S : List S37) (hS : Stamps S) (hSl : S.length ≤ 2000) :
    ∀ (m k i : Nat) (f t : Int) (acc : List S39), i + m = S.length → m + 22 ≤ k → 0 ≤ t → (t = 0 → acc = []) → acc.length + (if t > 0 then 1 else 0) ≤ i →
      ∃ res, strRun x life last (S.drop i) f t acc = some res ∧ R22_Stretches.l0 k S (acc ++ opened f t) i x life last = some (res, 0) ∧ res.length ≤ S.length := by
  intro m
  induction m with
  | zero =>
    intro k i f t acc h1 h2 h3 h4 h5
    obtain ⟨k, rfl⟩ : ∃ j, k = j + 1 := ⟨k - 1, by omega⟩
    unfold R22_Stretches.l0
    rw [if_neg (by omega), List.drop_eq_nil_iff.2 (by omega)]
    unfold strRun opened
    by_cases c : t > 0
    · simp only [if_pos c] at h5 ⊢
      exact ⟨_, rfl, rfl, by simp; omega⟩
    · simp only [if_neg c] at h5 ⊢
      exact ⟨_, rfl, by simp, by omega⟩
  | succ m ih =>
    intro k i f t acc h1 h2 h3 h4 h5
    obtain ⟨k, rfl⟩ : ∃ j, k = j + 1 := ⟨k - 1, by omega⟩
    have hi : i < S.length := by omega
    have e1 : (i : Int) < (S.length : Int) := by omega
    have e2 : (0 : Int) ≤ (i : Int) := by omega
    have ew : wrap64 ((i : Int) + 1) = ((i + 1 : Nat) : Int) := by rw [wrap_id (by omega) (by omega)]; omega
    obtain ⟨b0, b1⟩ := hS.1 _ (List.getElem_mem hi)
    have ewl : wrap64 (S[i].f0 + life) = S[i].f0 + life := wrap_id (by omega) (by omega)
    unfold R22_Stretches.l0
    rw [strRun_step _ _ _ hi]
    simp only [if_pos e1, if_pos e2, rd_T37_get hi, knows_mem x life last _ hx hp, counts_mem x _ life last hx (by omega : 21 ≤ k), Option.bind_some, ew, ewl]
    by_cases c : S[i].f1 ∈ x
    · rw [decide_eq_true c]
      simp only [if_true]
      by_cases ht : t > 0
      · rw [if_pos ht] at h5
        have eo : opened f t = [⟨f, t⟩] := if_pos ht
        have el : (acc ++ opened f t).length = acc.length + 1 := by rw [eo]; simp
        have e3 : ((acc ++ opened f t).length : Int) > 0 := by omega
        have e4 : wrap64 (((acc ++ opened f t).length : Int) - 1) = (acc.length : Int) := by rw [wrap_id (by omega) (by omega)]; omega
        have e5 : (0 : Int) ≤ (acc.length : Int) := by omega
        have e6 : (acc.length : Int) < ((acc ++ opened f t).length : Int) := by omega
        have e7 : rd_T39 (acc ++ opened f t) (acc.length : Int) = ⟨f, t⟩ := by
          rw [rd_T39_get (by omega)]
          simp [eo]
        have e8 : (acc ++ opened f t).length < 8796093022208 := by omega
        simp only [if_pos e3, e4, if_pos e5, if_pos e6, e7, if_pos e8, Int.toNat_natCast]
        by_cases d : S[i].f0 ≤ t
        · rw [if_pos d, if_neg (by omega : ¬ (t > 0 ∧ S[i].f0 > t)), if_neg (by omega : ¬ t = 0)]
          have := ih k (i + 1) f (S[i].f0 + life) acc (by omega) (by omega) (by omega) (fun h => by omega) (by split <;> omega)
          have es : (acc ++ opened f t).set acc.length ⟨f, S[i].f0 + life⟩ = acc ++ opened f (S[i].f0 + life) := by
            rw [eo, show opened f (S[i].f0 + life) = [⟨f, S[i].f0 + life⟩] from if_pos (by omega)]
            rw [List.set_append_right _ _ (Nat.le_refl _)]
            simp
          rw [es]
          exact this
        · rw [if_neg d, if_pos (by omega : t > 0 ∧ S[i].f0 > t)]
          have := ih k (i + 1) S[i].f0 (S[i].f0 + life) (acc ++ [⟨f, t⟩]) (by omega) (by omega) (by omega) (fun h => by omega) (by simp; split <;> omega)
          rw [show opened S[i].f0 (S[i].f0 + life) = [⟨S[i].f0, S[i].f0 + life⟩] from if_pos (by omega)] at this
          rw [eo]
          exact this
      · have ht0 : t = 0 := by omega
        have ha := h4 ht0
        subst ha
        subst ht0
        have eo : opened f 0 = [] := if_neg (by omega)
        have e3 : ¬ ((([] : List S39) ++ opened f 0).length : Int) > 0 := by rw [eo]; simp
        have e8 : (([] : List S39) ++ opened f 0).length < 8796093022208 := by rw [eo]; simp
        simp only [if_neg e3, if_pos e8]
        rw [if_neg (by omega : ¬ ((0 : Int) > 0 ∧ S[i].f0 > 0)), if_pos trivial]
        have := ih k (i + 1) S[i].f0 (S[i].f0 + life) [] (by omega) (by omega) (by omega) (fun h => rfl) (by simp; split <;> omega)
        rw [show opened S[i].f0 (S[i].f0 + life) = [⟨S[i].f0, S[i].f0 + life⟩] from if_pos (by omega)] at this
        rw [eo]
        exact this
    · rw [decide_eq_false c]
      simp only [Bool.false_eq_true, if_false]
      exact ih k (i + 1) f t acc (by omega) (by omega) h3 h4 (by omega)

theorem covers_loop (R : List S39) (a b : Int) (hR : R.length ≤ 2010) : ∀ (m k i : Nat), i + m = R.length → m + 1 ≤ k →
    R22_Covers.l0 k a b R i = some ((R.drop i).foldl (fun is s => is || (decide (s.f0 ≤ a) && decide (b ≤ s.f1))) false, 0) := by
  have htrue : ∀ l : List S39, l.foldl (fun is s => is || (decide (s.f0 ≤ a) && decide (b ≤ s.f1))) true = true := fun l => by
    induction l with
    | nil => rfl
    | cons y r ih => rw [List.foldl_cons, Bool.true_or]; exact ih
  intro m
  induction m with
  | zero =>
    intro k i h1 h2
    obtain ⟨k, rfl⟩ : ∃ j, k = j + 1 := ⟨k - 1, by omega⟩
    unfold R22_Covers.l0
    rw [if_neg (by omega), List.drop_eq_nil_iff.2 (by omega)]
    rfl
  | succ m ih =>
    intro k i h1 h2
    obtain ⟨k, rfl⟩ : ∃ j, k = j + 1 := ⟨k - 1, by omega⟩
    have hi : i < R.length := by omega
    have e1 : (i : Int) < (R.length : Int) := by omega
    have e2 : (0 : Int) ≤ (i : Int) := by omega
    have ew : wrap64 ((i : Int) + 1) = ((i + 1 : Nat) : Int) := by rw [wrap_id (by omega) (by omega)]; omega
    unfold R22_Covers.l0
    simp only [if_pos e1, if_pos e2, rd_T39_get hi, ew]
    rw [List.drop_eq_getElem_cons hi, List.foldl_cons, Bool.false_or]
    have hn := ih k (i + 1) (by omega) (by omega)
    by_cases c : R[i].f0 ≤ a
    · rw [if_pos c]
      by_cases d : b ≤ R[i].f1
      · rw [if_pos d, decide_eq_true c, decide_eq_true d, Bool.true_and, htrue]
      · rw [if_neg d, decide_eq_true c, decide_eq_false d, Bool.and_false]; exact hn
    · rw [if_neg c, decide_eq_false c, Bool.false_and]; exact hn


theorem fold_or (a b : Int) (l : List S39) (c : Bool) : l.foldl (fun is s => is || (decide (s.f0 ≤ a) && decide (b ≤ s.f1))) c = (c || l.foldl (fun is s => is || (decide (s.f0 ≤ a) && decide (b ≤ s.f1))) false) := by
  induction l generalizing c with
  | nil => simp
  | cons y r ih => rw [List.foldl_cons, ih, List.foldl_cons, ih (false || _), Bool.false_or, Bool.or_assoc]

/-- The program and the reference: the stretches. -/
theorem stretches_eq (x : List Int) (life last : Int) (hx : x.length ≤ 20) (S : List S37) {K : Nat} (hK : 4200 ≤ K) :
    ∃ R e, key_Stretches.f x life last S = some (R, e) ∧ R22_Stretches.f K x life last S = some (R, e) ∧ R.length ≤ 2000 ∧ key_wrong.f 4096 x life last S = some e ∧ (e = 0 → S.length ≤ 2000 ∧ strRun x life last S 0 0 [] = some R) := by
  obtain ⟨v, a, b, c⟩ := asks_eq x life last hx S (K' := K) (by omega)
  unfold key_Stretches.f R22_Stretches.f
  rw [a, b]
  simp only [Option.bind_some]
  by_cases hv : v = 0
  · obtain ⟨c1, c2, c3, c4, c5, c6⟩ := c hv
    subst hv
    obtain ⟨res, g1, g2, g3⟩ := stretches_both x life last hx c2 c3 c4 S c6 c5 S.length K 0 0 0 [] (by omega) (by omega) (by omega) (fun _ => rfl) (by simp)
    rw [List.drop_zero] at g1
    have g2' : R22_Stretches.l0 K S [] 0 x life last = some (res, 0) := g2
    rw [if_pos rfl, if_pos rfl, if_pos c5, g1, g2']
    exact ⟨res, 0, rfl, rfl, by omega, rfl, fun _ => ⟨c5, rfl⟩⟩
  · rw [if_neg hv, if_neg hv]
    exact ⟨[], v, rfl, rfl, by simp, rfl, fun h => absurd h hv⟩

theorem covers_eq (x : List Int) (life last : Int) (hx : x.length ≤ 20) (S : List S37) (p q : Int) {K : Nat} (hK : 4200 ≤ K) :
    ∃ c e, key_Covers.f x life last S p q = some (c, e) ∧ R22_Covers.f K x life last S p q = some (c, e) := by
  obtain ⟨R, e, a, b, hR, c, d⟩ := stretches_eq x life last hx S hK
  obtain ⟨K, rfl⟩ : ∃ j, K = j + 1 + 1 := ⟨K - 2, by omega⟩
  unfold key_Covers.f R22_Covers.f
  rw [b, c]
  simp only [Option.bind_some]
  by_cases he : e = 0
  · subst he
    obtain ⟨d1, d2⟩ := d rfl
    rw [if_pos rfl, if_pos rfl, d2]
    have hj : ∀ bb, bb = true → R22_Covers.j0 (K + 1 + 1) p q R 0 bb = some (false, 2) := fun bb hb => by
      subst hb
      rw [R22_Covers.j0, if_pos rfl, R22_Covers.j1, if_neg (by decide)]
    by_cases h1 : p < 0
    · rw [if_pos h1, if_pos h1]; exact ⟨false, 2, rfl, hj _ rfl⟩
    · rw [if_neg h1, if_neg h1]
      by_cases h2 : q < p
      · rw [if_pos h2, if_pos h2]; exact ⟨false, 2, rfl, hj _ rfl⟩
      · rw [if_neg h2, if_neg h2]
        by_cases h3 : q > 1099511627776
        · rw [if_pos h3]; exact ⟨false, 2, rfl, hj _ (decide_eq_true h3)⟩
        · rw [if_neg h3, if_pos d1, decide_eq_false h3]
          refine ⟨covered p q R, 0, rfl, ?_⟩
          rw [R22_Covers.j0, if_neg (by decide), R22_Covers.j1, if_pos rfl]
          have hl := covers_loop R p q (by omega) R.length K 0 (by omega) (by omega)
          rw [List.drop_zero] at hl
          have hl' : R22_Covers.l0 K p q R 0 = _ := hl
          unfold covered
          rw [fold_or]
          by_cases h4 : p = q
          · rw [if_pos h4, beq_iff_eq.2 h4, Bool.true_or]
          · rw [if_neg h4, beq_eq_false_iff_ne.2 h4, Bool.false_or, hl']
  · rw [if_neg he, if_neg he]
    refine ⟨false, e, rfl, ?_⟩
    rw [R22_Covers.j0, if_neg (by decide), R22_Covers.j1, if_neg he]

theorem same_stretches (R : List S39) (hR : R.length ≤ 2010) : ∀ (m k i : Nat), i + m = R.length → m + 1 ≤ k → L22_sameStretches.l0 k R R i = some true := by
  intro m
  induction m with
  | zero =>
    intro k i h1 h2
    obtain ⟨k, rfl⟩ : ∃ j, k = j + 1 := ⟨k - 1, by omega⟩
    unfold L22_sameStretches.l0
    rw [if_neg (by omega)]
  | succ m ih =>
    intro k i h1 h2
    obtain ⟨k, rfl⟩ : ∃ j, k = j + 1 := ⟨k - 1, by omega⟩
    unfold L22_sameStretches.l0
    rw [if_pos (by omega), if_pos (by omega), if_pos (by omega), if_neg (by simp), wrap_id (by omega) (by omega)]
    have := ih k (i + 1) (by omega) (by omega)
    rw [Int.natCast_add] at this
    exact this

theorem same_ints (x : List Int) (hx : x.length ≤ 2010) : ∀ (m k i : Nat), i + m = x.length → m + 1 ≤ k → K_SameInts.l0 k x x i = some true := by
  intro m
  induction m with
  | zero =>
    intro k i h1 h2
    obtain ⟨k, rfl⟩ : ∃ j, k = j + 1 := ⟨k - 1, by omega⟩
    unfold K_SameInts.l0
    rw [if_neg (by omega)]
  | succ m ih =>
    intro k i h1 h2
    obtain ⟨k, rfl⟩ : ∃ j, k = j + 1 := ⟨k - 1, by omega⟩
    unfold K_SameInts.l0
    rw [if_pos (by omega), if_pos (by omega), if_pos (by omega), if_pos rfl, wrap_id (by omega) (by omega)]
    have := ih k (i + 1) (by omega) (by omega)
    rw [Int.natCast_add] at this
    exact this

theorem same_hist (S : List S37) (hS : S.length ≤ 2010) : ∀ (m k i : Nat), i + m = S.length → m + 100 ≤ k → L22_KeyStretches.l0 k S S i = some true := by
  intro m
  induction m with
  | zero =>
    intro k i h1 h2
    obtain ⟨k, rfl⟩ : ∃ j, k = j + 1 := ⟨k - 1, by omega⟩
    unfold L22_KeyStretches.l0
    rw [if_neg (by omega), awake_law (by omega)]
    rfl
  | succ m ih =>
    intro k i h1 h2
    obtain ⟨k, rfl⟩ : ∃ j, k = j + 1 := ⟨k - 1, by omega⟩
    unfold L22_KeyStretches.l0
    rw [if_pos (by omega), if_pos (by omega), if_pos (by omega), if_neg (by simp), wrap_id (by omega) (by omega)]
    have := ih k (i + 1) (by omega) (by omega)
    rw [Int.natCast_add] at this
    exact this

theorem stretches_j0 (x : List Int) (life last : Int) (S : List S37) (p q : Int) (bb : Bool) (hb : bb = false → x.length ≤ 20 ∧ S.length ≤ 2010) (K : Nat) (hK : 5000 ≤ K) : L22_KeyStretches.j0 K S bb x life last p q = some true := by
  obtain ⟨K, rfl⟩ : ∃ j, K = j + 1 + 1 := ⟨K - 2, by omega⟩
  rw [L22_KeyStretches.j0]
  cases bb with
  | true =>
    rw [if_pos rfl, awake_law (by omega)]
    rfl
  | false =>
    obtain ⟨hx, hS⟩ := hb rfl
    rw [if_neg (by decide)]
    have hown : L22_own.f x life last = some (x, life, last) := by
      unfold L22_own.f K_OwnInts.f
      simp only [Option.bind_some, List.length_nil, List.nil_append]
      rw [if_pos (by omega)]
      rfl
    obtain ⟨R, e, a1, a2, a3, _, _⟩ := stretches_eq x life last hx S (K := K + 1) (by omega)
    obtain ⟨c, e', b1, b2⟩ := covers_eq x life last hx S p q (K := K + 1) (by omega)
    have hss : L22_sameStretches.f (K + 1) R R = some true := by
      unfold L22_sameStretches.f
      rw [if_pos rfl]
      exact same_stretches R (by omega) R.length (K + 1) 0 (by omega) (by omega)
    have hsame : L22_same.f (K + 1) x life last x life last = some true := by
      unfold L22_same.f K_SameInts.f
      rw [if_pos rfl, if_pos rfl, if_pos rfl]
      have := same_ints x (by omega) x.length (K + 1) 0 (by omega) (by omega)
      have h0 : ((0 : Nat) : Int) = 0 := rfl
      rw [h0] at this
      rw [this]
      rfl
    have hl : ([] : List S37).length + S.length < 8796093022208 := by simp; omega
    simp only [hown, Option.bind_some, if_pos hl, List.nil_append, a1, a2, b1, b2, hss, if_true, bne_self_eq_false, Bool.false_eq_true, if_false, hsame, Bool.not_true]
    rw [L22_KeyStretches.j1, if_neg (by decide)]
    exact same_hist S hS S.length K 0 (by omega) (by omega)

theorem KeyStretches (x : List Int) (life last : Int) (S : List S37) (p q : Int) : L22_KeyStretches.f 5000 x life last S p q = some true := by
  unfold L22_KeyStretches.f
  split
  · exact stretches_j0 x life last S p q true (fun h => by cases h) 5000 (by omega)
  · split
    · split
      · exact stretches_j0 x life last S p q true (fun h => by cases h) 5000 (by omega)
      · exact stretches_j0 x life last S p q _ (fun h => ⟨by omega, by have := of_decide_eq_false h; omega⟩) 5000 (by omega)
    · exact stretches_j0 x life last S p q _ (fun h => ⟨by omega, by have := of_decide_eq_false h; omega⟩) 5000 (by omega)

end Go.Proofs.Ytlcghmfkgblheaa.Pure

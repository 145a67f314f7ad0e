/- The plain law KeyShapes of chapter 22: the printed function answers true at every history and life. No condition but those of the row. -/
import Derived.Test.YtlcghmfkgblheaaF14
import Derived.Test.YtlcghmfkgblheaaPKey
namespace Go.Proofs.Ytlcghmfkgblheaa.Pure
open Go.RowKit Go.Proofs.Ytlcghmfkgblheaa.F Go.Proofs.YtlcghmfkgblheaaW.PrintWords Go.Proofs.YtlcghmfkgblheaaW.PrintLast Go.Proofs.YtlcghmfkgblheaaW.PrintMore
set_option linter.unusedVariables false

/-- What is known of the stretches of ticks l, where f, t is the open one (t = 0: none). -/
theorem runs_facts (n : Int) (hn : 1 ≤ n) : ∀ (l : List Int) (f t : Int), (∀ x ∈ l, 0 ≤ x ∧ x ≤ 480) → l.Pairwise (· ≤ ·) → (t = 0 ∨ 0 ≤ f ∧ f + n ≤ t ∧ t ≤ 480 + n ∧ ∀ x ∈ l, f ≤ x) →
    (∀ s ∈ runs n l f t, (s.f0 ∈ l ∨ t ≠ 0 ∧ s.f0 = f) ∧ s.f0 + n ≤ s.f1 ∧ s.f1 ≤ 480 + n) ∧ (runs n l f t).Pairwise (fun a b => a.f1 < b.f0)
  | [], f, t, _, _, ht => by
    unfold runs
    split
    · refine ⟨fun s hs => ?_, List.pairwise_singleton _ _⟩
      rw [List.mem_singleton] at hs
      subst hs
      rcases ht with rfl | ⟨h1, h2, h3, _⟩
      · omega
      · exact ⟨.inr ⟨by omega, rfl⟩, h2, h3⟩
    · exact ⟨fun _ h => (List.not_mem_nil h).elim, List.Pairwise.nil⟩
  | x :: r, f, t, hl, hp, ht => by
    rw [List.pairwise_cons] at hp
    obtain ⟨hx, hx'⟩ := hl x List.mem_cons_self
    have hr := fun y hy => hl y (List.mem_cons_of_mem _ hy)
    unfold runs
    split
    case isTrue h =>
      obtain ⟨g1, g2⟩ := runs_facts n hn r x (x + n) hr hp.2 (.inr ⟨hx, Int.le_refl _, by omega, hp.1⟩)
      have hge : ∀ s ∈ runs n r x (x + n), x ≤ s.f0 := fun s hs => by
        rcases (g1 s hs).1 with h | ⟨_, h⟩
        · exact hp.1 _ h
        · omega
      refine ⟨fun s hs => ?_, List.pairwise_cons.2 ⟨fun s hs => ?_, g2⟩⟩
      · rcases List.mem_cons.1 hs with rfl | hs
        · rcases ht with rfl | ⟨h1, h2, h3, _⟩
          · omega
          · exact ⟨.inr ⟨by omega, rfl⟩, h2, h3⟩
        · obtain ⟨a, b, c⟩ := g1 s hs
          refine ⟨.inl ?_, b, c⟩
          rcases a with a | ⟨_, a⟩
          · exact List.mem_cons_of_mem _ a
          · rw [a]; exact List.mem_cons_self
      · have := hge s hs
        show t < s.f0
        omega
    case isFalse h =>
      have ht' : (if t = 0 then x else f) ≤ x ∧ 0 ≤ (if t = 0 then x else f) := by
        rcases ht with rfl | ⟨h1, h2, h3, h4⟩
        · simp [hx]
        · rw [if_neg (by omega)]; exact ⟨h4 x List.mem_cons_self, h1⟩
      obtain ⟨g1, g2⟩ := runs_facts n hn r (if t = 0 then x else f) (x + n) hr hp.2 (.inr ⟨ht'.2, by omega, by omega, fun y hy => by have := hp.1 y hy; omega⟩)
      refine ⟨fun s hs => ?_, g2⟩
      obtain ⟨a, b, c⟩ := g1 s hs
      refine ⟨?_, b, c⟩
      rcases a with a | ⟨_, a⟩
      · exact .inl (List.mem_cons_of_mem _ a)
      · by_cases h0 : t = 0
        · rw [if_pos h0] at a; rw [a]; exact .inl List.mem_cons_self
        · rw [if_neg h0] at a; exact .inr ⟨h0, a⟩

theorem runs_len (n : Int) (hn : 1 ≤ n) : ∀ (l : List Int) (f t : Int), (∀ x ∈ l, 0 ≤ x) → (runs n l f t).length ≤ l.length + (if t > 0 then 1 else 0)
  | [], f, t, hl => by unfold runs; split <;> simp
  | x :: r, f, t, hl => by
    have hx := hl x List.mem_cons_self
    have hr := fun y hy => hl y (List.mem_cons_of_mem _ hy)
    unfold runs
    have h1 := runs_len n hn r x (x + n) hr
    have h2 := runs_len n hn r (if t = 0 then x else f) (x + n) hr
    have hxn : x + n > 0 := by omega
    rw [if_pos hxn] at h1 h2
    split
    case isTrue hc => rw [if_pos hc.1, List.length_cons, List.length_cons]; omega
    case isFalse hc => rw [List.length_cons]; omega

theorem runs_nil (n : Int) (hn : 1 ≤ n) : ∀ (l : List Int) (f t : Int), t > 0 → (∀ x ∈ l, 0 ≤ x) → runs n l f t ≠ []
  | [], f, t, h, _ => by unfold runs; rw [if_pos h]; simp
  | x :: r, f, t, h, hl => by
    have hx := hl x List.mem_cons_self
    unfold runs
    split
    · simp
    · exact runs_nil n hn r _ _ (by omega) (fun y hy => hl y (List.mem_cons_of_mem _ hy))

/-- The first stretch begins where the open one begins, and is at least as long. -/
theorem runs_first (n : Int) (hn : 1 ≤ n) : ∀ (l : List Int) (f t : Int), t > 0 → (∀ x ∈ l, 0 ≤ x ∧ t ≤ x + n) → l.Pairwise (· ≤ ·) → ∃ s ∈ runs n l f t, s.f0 = f ∧ t ≤ s.f1
  | [], f, t, h, _, _ => by unfold runs; rw [if_pos h]; exact ⟨_, List.mem_singleton.2 rfl, rfl, Int.le_refl _⟩
  | x :: r, f, t, h, hl, hp => by
    rw [List.pairwise_cons] at hp
    have hx := hl x List.mem_cons_self
    unfold runs
    split
    · exact ⟨_, List.mem_cons_self, rfl, Int.le_refl _⟩
    · rw [if_neg (by omega)]
      obtain ⟨s, h1, h2, h3⟩ := runs_first n hn r f (x + n) (by omega) (fun y hy => ⟨(hl y (List.mem_cons_of_mem _ hy)).1, by have := hp.1 y hy; omega⟩) hp.2
      exact ⟨s, h1, h2, by omega⟩

/-- A longer life has stretches that contain these. -/
theorem runs_longer (n : Int) (hn : 1 ≤ n) : ∀ (l : List Int) (f f' t t' : Int), (∀ x ∈ l, 0 ≤ x ∧ (t ≠ 0 → t ≤ x + n ∧ f' ≤ x)) → l.Pairwise (· ≤ ·) → (t = 0 ∧ t' = 0 ∨ t > 0 ∧ t' = t + 3 ∧ f' ≤ f) →
    ∀ s ∈ runs n l f t, ∃ s' ∈ runs (n + 3) l f' t', s'.f0 ≤ s.f0 ∧ s.f1 ≤ s'.f1
  | [], f, f', t, t', _, _, ht, s, hs => by
    unfold runs at hs ⊢
    split at hs
    · rw [List.mem_singleton] at hs
      subst hs
      rcases ht with ⟨rfl, rfl⟩ | ⟨h1, rfl, h3⟩
      · omega
      · rw [if_pos (by omega)]
        exact ⟨_, List.mem_singleton.2 rfl, h3, by show t ≤ t + 3; omega⟩
    · exact (List.not_mem_nil hs).elim
  | x :: r, f, f', t, t', hl, hp, ht, s, hs => by
    rw [List.pairwise_cons] at hp
    obtain ⟨hx, hxt⟩ := hl x List.mem_cons_self
    have hr : ∀ y ∈ r, 0 ≤ y := fun y hy => (hl y (List.mem_cons_of_mem _ hy)).1
    have ih := fun g g' (hg : g' ≤ g) (hg' : g' ≤ x) => runs_longer n hn r g g' (x + n) (x + (n + 3)) (fun y hy => ⟨hr y hy, fun _ => by have := hp.1 y hy; omega⟩) hp.2 (.inr ⟨by omega, by omega, hg⟩)
    unfold runs at hs ⊢
    by_cases h : t > 0 ∧ x > t
    · rw [if_pos h] at hs
      have ht2 : t' = t + 3 ∧ f' ≤ f := by rcases ht with ⟨h1, _⟩ | ⟨_, h2⟩ <;> omega
      by_cases h' : t' > 0 ∧ x > t'
      · rw [if_pos h']
        rcases List.mem_cons.1 hs with rfl | hs
        · exact ⟨_, List.mem_cons_self, ht2.2, by show t ≤ t'; omega⟩
        · obtain ⟨s', g1, g2⟩ := ih x x (Int.le_refl _) (Int.le_refl _) s hs
          exact ⟨s', List.mem_cons_of_mem _ g1, g2⟩
      · rw [if_neg h', if_neg (by omega)]
        rcases List.mem_cons.1 hs with rfl | hs
        · obtain ⟨s', g1, g2, g3⟩ := runs_first (n + 3) (by omega) r f' (x + (n + 3)) (by omega) (fun y hy => ⟨hr y hy, by have := hp.1 y hy; omega⟩) hp.2
          exact ⟨s', g1, by show s'.f0 ≤ f; omega, by show t ≤ s'.f1; omega⟩
        · -- what is open in the longer life began no later
          have hf' : f' ≤ x := (hxt (by omega)).2
          exact ih x f' hf' hf' s hs
    · rw [if_neg h] at hs
      rw [if_neg (by rcases ht with ⟨_, h1⟩ | ⟨h1, h2, _⟩ <;> omega)]
      rcases ht with ⟨rfl, rfl⟩ | ⟨h1, h2, h3⟩
      · rw [if_pos rfl] at hs ⊢
        exact ih x x (Int.le_refl _) (Int.le_refl _) s hs
      · rw [if_neg (by omega)] at hs
        rw [if_neg (by omega)]
        exact ih f f' h3 (hxt (by omega)).2 s hs

theorem same_loop (R : List S39) (hR : R.length ≤ 1000) : ∀ (m k i : Nat), i + m = R.length → m + 1 ≤ k → L22_sameStretches.l0 k R R i = some true := by
  intro m
  induction m with
  | zero =>
    intro k i h1 h2
    obtain ⟨k, rfl⟩ : ∃ j, k = j + 1 := ⟨k - 1, by omega⟩
    unfold L22_sameStretches.l0
    rw [if_neg (by omega)]
  | succ m ih =>
    intro k i h1 h2
    obtain ⟨k, rfl⟩ : ∃ j, k = j + 1 := ⟨k - 1, by omega⟩
    unfold L22_sameStretches.l0
    rw [if_pos (by omega), if_pos (by omega), if_pos (by omega), if_neg (by simp), wrap_id (by omega) (by omega)]
    have := ih k (i + 1) (by omega) (by omega)
    rw [Int.natCast_add] at this
    exact this

theorem any_fold (a b : Int) : ∀ (l : List S39) (c : Bool), (∃ s ∈ l, s.f0 ≤ a ∧ b ≤ s.f1) → l.foldl (fun is s => is || (decide (s.f0 ≤ a) && decide (b ≤ s.f1))) c = true
  | [], _, ⟨s, h, _⟩ => (List.not_mem_nil h).elim
  | x :: r, c, ⟨s, h, h1, h2⟩ => by
    rw [List.foldl_cons]
    rcases List.mem_cons.1 h with rfl | h
    · have : (c || (decide (s.f0 ≤ a) && decide (b ≤ s.f1))) = true := by simp [h1, h2]
      rw [this]
      clear h this
      induction r with
      | nil => rfl
      | cons y r ih => rw [List.foldl_cons, Bool.true_or]; exact ih
    · exact any_fold a b r _ ⟨s, h, h1, h2⟩

theorem shapes_l2 (K : Nat) (n : Int) (S F : List S37) (R : List S39) (i : Nat) (hi : i < R.length) (hRl : R.length ≤ 1000) (hF : F.length ≤ 1000)
    (hn0 : 1 ≤ n) (hn1 : n ≤ 1000)
    (hfrom : ∃ s ∈ F, s.f0 = R[i].f0) (hlong : R[i].f0 + n ≤ R[i].f1) (h0 : 0 ≤ R[i].f0) (h1 : R[i].f1 ≤ 10000)
    (hprev : ∀ j, (h : j + 1 = i) → R[j].f1 < R[i].f0)
    (hcov : key_Covers.f [7, 42] (n + 3) (-1) S R[i].f0 R[i].f1 = some (true, 0))
    (hgo : ∀ k, K ≤ k → L22_KeyShapes.l1 k n S F R ((i : Int) + 1) [7, 42] (n + 3) (-1) = some true) :
    ∀ (m k j : Nat) (b : Bool), j + m = F.length → m + 2 + K ≤ k → (b = true ∨ ∃ s ∈ F.drop j, s.f0 = R[i].f0) → L22_KeyShapes.l2 k n S F R i b j [7, 42] (n + 3) (-1) = some true := by
  intro m
  induction m with
  | zero =>
    intro k j b h2 h3 h4
    obtain ⟨k, rfl⟩ : ∃ j, k = j + 1 := ⟨k - 1, by omega⟩
    have hb : b = true := by
      rcases h4 with h4 | ⟨s, h4, _⟩
      · exact h4
      · rw [List.drop_eq_nil_iff.2 (by omega)] at h4; exact (List.not_mem_nil h4).elim
    subst hb
    unfold L22_KeyShapes.l2
    rw [if_neg (by omega), if_pos (by omega), if_pos (by omega), rd_T39_get hi, hcov]
    simp only [Option.bind_some, if_true]
    rw [wrap_id (x := R[i].f0 + n) (by omega) (by omega), if_neg (by omega), wrap_id (x := (i : Int) + 1) (by omega) (by omega)]
    have hg := hgo k (by omega)
    by_cases hi0 : i = 0
    · subst hi0
      simpa using hg
    · obtain ⟨j, rfl⟩ : ∃ j, i = j + 1 := ⟨i - 1, by omega⟩
      rw [if_pos (by omega), wrap_id (by omega) (by omega), if_pos (by omega), if_pos (by omega)]
      have hj : (((j + 1 : Nat) : Int) - 1) = (j : Nat) := by omega
      rw [hj, rd_T39_get (by omega), if_neg (by have := hprev j rfl; omega)]
      exact hg
  | succ m ih =>
    intro k j b h2 h3 h4
    obtain ⟨k, rfl⟩ : ∃ j, k = j + 1 := ⟨k - 1, by omega⟩
    have hj : j < F.length := by omega
    have hd : F.drop j = F[j] :: F.drop (j + 1) := List.drop_eq_getElem_cons hj
    unfold L22_KeyShapes.l2
    rw [if_pos (by omega), wrap_id (x := (j : Int) + 1) (by omega) (by omega)]
    have ih' := fun b' h => ih k (j + 1) b' (by omega) (by omega) h
    rw [Int.natCast_add] at ih'
    cases b with
    | true => rw [if_pos rfl]; exact ih' true (.inl rfl)
    | false =>
      rw [if_neg (by decide), if_pos (by omega), if_pos (by omega), if_pos (by omega), rd_T37_get hj, rd_T39_get hi]
      refine ih' _ ?_
      rcases h4 with h4 | ⟨s, h4, h5⟩
      · cases h4
      · rw [hd] at h4
        rcases List.mem_cons.1 h4 with rfl | h4
        · exact .inl (by rw [h5]; exact beq_self_eq_true _)
        · exact .inr ⟨s, h4, h5⟩

theorem shapes_l1 (n : Int) (S F : List S37) (R : List S39) (hRl : R.length ≤ 100) (hF : F.length ≤ 100) (hn0 : 1 ≤ n) (hn1 : n ≤ 1000)
    (hall : ∀ s ∈ R, (∃ y ∈ F, y.f0 = s.f0) ∧ s.f0 + n ≤ s.f1 ∧ 0 ≤ s.f0 ∧ s.f1 ≤ 10000 ∧ key_Covers.f [7, 42] (n + 3) (-1) S s.f0 s.f1 = some (true, 0))
    (hp : R.Pairwise (fun a b => a.f1 < b.f0)) :
    ∀ (m k i : Nat), i + m = R.length → m * 200 + 200 ≤ k → L22_KeyShapes.l1 k n S F R i [7, 42] (n + 3) (-1) = some true := by
  intro m
  induction m with
  | zero =>
    intro k i h1 h2
    obtain ⟨k, rfl⟩ : ∃ j, k = j + 1 := ⟨k - 1, by omega⟩
    unfold L22_KeyShapes.l1
    rw [if_neg (by omega), awake_law (by omega)]
    rfl
  | succ m ih =>
    intro k i h1 h2
    obtain ⟨k, rfl⟩ : ∃ j, k = j + 1 := ⟨k - 1, by omega⟩
    have hi : i < R.length := by omega
    obtain ⟨a, b, c, d, e⟩ := hall _ (List.getElem_mem hi)
    unfold L22_KeyShapes.l1
    rw [if_pos (by omega)]
    refine shapes_l2 (m * 200 + 200) n S F R i hi (by omega) (by omega) hn0 hn1 a b c d (fun j hj => ?_) e (fun k hk => ?_) F.length k 0 false (by omega) (by omega) (.inr (by simpa using a))
    · subst hj
      exact List.pairwise_iff_getElem.1 hp j (j + 1) (by omega) hi (by omega)
    · have := ih k (i + 1) (by omega) hk
      rw [Int.natCast_add] at this
      exact this

theorem shapes_l0 (n : Int) (S : List S37) (hS : S.length ≤ 1000) (K : Nat) (A B : Int) (C D : List Int) (E G : Int) (r : Option Bool)
    (hgo : ∀ k, K ≤ k → L22_KeyShapes.l0 (k + 1) n S (S.filter (fun s => s.f1 != 9)) S.length C A B D E G = r) :
    ∀ (m k i : Nat) (acc : List S37), i + m = S.length → m + 1 + K ≤ k → acc ++ (S.drop i).filter (fun s => s.f1 != 9) = S.filter (fun s => s.f1 != 9) → L22_KeyShapes.l0 k n S acc i C A B D E G = r := by
  intro m
  induction m with
  | zero =>
    intro k i acc h1 h2 h3
    obtain ⟨k, rfl⟩ : ∃ j, k = j + 1 := ⟨k - 1, by omega⟩
    rw [List.drop_eq_nil_iff.2 (by omega), List.filter_nil, List.append_nil] at h3
    subst h3
    obtain rfl : i = S.length := by omega
    exact hgo k (by omega)
  | succ m ih =>
    intro k i acc h1 h2 h3
    obtain ⟨k, rfl⟩ : ∃ j, k = j + 1 := ⟨k - 1, by omega⟩
    have hi : i < S.length := by omega
    have hd : S.drop i = S[i] :: S.drop (i + 1) := List.drop_eq_getElem_cons hi
    rw [hd] at h3
    have hacc : acc.length ≤ 1000 := by
      have h4 := congrArg List.length h3
      rw [List.length_append] at h4
      have h5 := List.length_filter_le (fun s : S37 => s.f1 != 9) S
      omega
    unfold L22_KeyShapes.l0
    rw [if_pos (by omega), if_pos (by omega), rd_T37_get hi, wrap_id (by omega) (by omega)]
    have ih' := fun acc' h => ih k (i + 1) acc' (by omega) (by omega) h
    rw [Int.natCast_add] at ih'
    by_cases h9 : S[i].f1 = 9
    · rw [if_pos h9]
      refine ih' acc ?_
      rw [← h3, List.filter_cons_of_neg (by simp [h9])]
    · rw [if_neg h9, if_pos (by omega)]
      refine ih' _ ?_
      rw [← h3, List.filter_cons_of_pos (by simp [h9]), List.append_assoc]
      rfl

theorem ticks_filter (S : List S37) : ticks (S.filter (fun s => s.f1 != 9)) = ticks S := by simp [ticks, List.filter_filter]

theorem covers_law (S : List S37) (T : Int) (hS : Hist S T) (hT : T ≤ 480) (hl : S.length ≤ 30) (n a b : Int) (hn : 1 ≤ n) (hn' : n ≤ 100000) (ha : 0 ≤ a) (hab : a ≤ b) (hb : b ≤ 10000)
    (hc : ∃ s ∈ runs n (ticks S) 0 0, s.f0 ≤ a ∧ b ≤ s.f1) : key_Covers.f [7, 42] n (-1) S a b = some (true, 0) := by
  unfold key_Covers.f
  rw [wrong_law S T hS hT hl (by omega) n hn hn']
  simp only [Option.bind_some, if_true]
  rw [if_neg (by omega), if_neg (by omega), if_neg (by omega), if_pos (by omega), strRun_law n hn hn' S 0 0 [] (fun s hs => ⟨(hS.1 s hs).1, by have := (hS.1 s hs).2.1; omega, (hS.1 s hs).2.2⟩)]
  rw [List.nil_append, Option.map_some]
  unfold covered
  rw [any_fold a b _ _ hc]

theorem mem_ticks {S : List S37} {x : Int} (h : x ∈ ticks S) : ∃ s ∈ S.filter (fun s => s.f1 != 9), s.f0 = x := by
  simp only [ticks, List.mem_map] at h
  exact h

theorem KeyShapes : L22_KeyShapes.Pure := by
  intro l0 a1 _ _ _ hw
  obtain ⟨k0, hk0⟩ : ∃ k, k = 13999 := ⟨_, rfl⟩
  refine ⟨k0 + 1, ?_⟩
  unfold L22_KeyShapes.f
  rw [mod25]
  simp only [Option.bind_some]
  obtain ⟨n, hn⟩ : ∃ n, n = 1 + a1 % 25 := ⟨_, rfl⟩
  rw [← hn, wrap_id (x := n) (by omega) (by omega), wrap_id (x := n + 3) (by omega) (by omega), new_law (by omega) n (by omega) (by omega), new_law (by omega) (n + 3) (by omega) (by omega)]
  obtain ⟨S, T, hs, hS, hT0, hT, hSl⟩ := stamps_holds l0
  rw [le_fuel (f := fun k => L22_stamps.f k l0) (fun k => L22_stamps.mono _ _) (by omega : 31 ≤ k0 + 1) hs]
  simp only [Option.bind_some, if_true]
  have hS' : Hist S 480 := ⟨fun s h => ⟨(hS.1 s h).1, by have := (hS.1 s h).2.1; omega, (hS.1 s h).2.2⟩, hS.2⟩
  have hFS : Hist (S.filter (fun s => s.f1 != 9)) T := ⟨fun s h => hS.1 s (List.mem_filter.1 h).1, hS.2.sublist List.filter_sublist⟩
  have hFl : (S.filter (fun s => s.f1 != 9)).length ≤ S.length := List.length_filter_le _ _
  have hpos : ∀ x ∈ ticks S, 0 ≤ x ∧ x ≤ 480 := fun x hx => by obtain ⟨s, h, rfl⟩ := mem_ticks hx; exact ⟨(hS'.1 s (List.mem_filter.1 h).1).1, (hS'.1 s (List.mem_filter.1 h).1).2.1⟩
  have hpw : (ticks S).Pairwise (· ≤ ·) := List.pairwise_map.2 hFS.2
  obtain ⟨f1, f2⟩ := runs_facts n (by omega) (ticks S) 0 0 hpos hpw (.inl rfl)
  have hRl := runs_len n (by omega) (ticks S) 0 0 (fun x hx => (hpos x hx).1)
  rw [if_neg (by omega), Nat.add_zero] at hRl
  have hTl : (ticks S).length = (S.filter (fun s => s.f1 != 9)).length := by simp [ticks]
  unfold L22_KeyShapes.j0
  show (if ((0 : Int) != 0) = true then some false else L22_KeyShapes.l0 k0 n S [] 0 [7, 42] n (-1) [7, 42] (n + 3) (-1)) = some true
  rw [if_neg (by decide)]
  refine shapes_l0 n S (by omega) 13000 n (-1) [7, 42] [7, 42] (n + 3) (-1) _ (fun k hk => ?_) S.length k0 0 [] (by omega) (by omega) (by simp)
  unfold L22_KeyShapes.l0
  rw [if_neg (by omega), stretches_law S T hS hT hSl n (by omega) (by omega), stretches_law _ T hFS hT (by omega) n (by omega) (by omega), ticks_filter]
  simp only [Option.bind_some, if_true]
  have hsame : L22_sameStretches.f k (runs n (ticks S) 0 0) (runs n (ticks S) 0 0) = some true := by
    unfold L22_sameStretches.f
    rw [if_pos rfl]
    exact same_loop _ (by omega) (runs n (ticks S) 0 0).length k 0 (by omega) (by omega)
  rw [hsame]
  simp only [Option.bind_some, if_true]
  rw [if_neg (by omega)]
  have hempty : (((runs n (ticks S) 0 0).length : Int) == 0) = (((S.filter (fun s => s.f1 != 9)).length : Int) == 0) := by
    rw [← hTl]
    cases h : ticks S with
    | nil => rfl
    | cons x r =>
      have h1 : runs n (x :: r) 0 0 ≠ [] := by
        unfold runs
        rw [if_neg (by omega)]
        refine runs_nil n (by omega) r _ _ ?_ (fun y hy => (hpos y (by rw [h]; exact List.mem_cons_of_mem _ hy)).1)
        have := (hpos x (by rw [h]; exact List.mem_cons_self)).1
        omega
      have h2 : (runs n (x :: r) 0 0).length ≠ 0 := fun e => h1 (List.eq_nil_of_length_eq_zero e)
      rw [beq_eq_false_iff_ne.2 (by omega), beq_eq_false_iff_ne.2 (by rw [List.length_cons]; omega)]
  rw [hempty, bne_self_eq_false]
  obtain ⟨k, rfl⟩ : ∃ j, k = j + 1 := ⟨k - 1, by omega⟩
  unfold L22_KeyShapes.j2
  show (if false = true then some false else L22_KeyShapes.l1 k n S (S.filter (fun s => s.f1 != 9)) (runs n (ticks S) 0 0) 0 [7, 42] (n + 3) (-1)) = some true
  rw [if_neg (by decide)]
  refine shapes_l1 n S _ _ (by omega) (by omega) (by omega) (by omega) (fun s hs => ?_) f2 (runs n (ticks S) 0 0).length k 0 (by omega) (by omega)
  obtain ⟨a, b, c⟩ := f1 s hs
  have hm : s.f0 ∈ ticks S := a.resolve_right (fun h => h.1 rfl)
  have hp := hpos _ hm
  refine ⟨mem_ticks hm, b, hp.1, by omega, covers_law S T hS hT hSl (n + 3) _ _ (by omega) (by omega) hp.1 (by omega) (by omega) ?_⟩
  exact runs_longer n (by omega) (ticks S) 0 0 0 0 (fun x hx => ⟨(hpos x hx).1, fun h => (h rfl).elim⟩) hpw (.inl ⟨rfl, rfl⟩) s hs

end Go.Proofs.Ytlcghmfkgblheaa.Pure

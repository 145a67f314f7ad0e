/- The plain law KeyHistory of chapter 22: the printed function answers true at every history and life. No condition but those of the row. -/
import Derived.Test.YtlcghmfkgblheaaF6
import Derived.Test.YtlcghmfkgblheaaPKey
namespace Go.Proofs.Ytlcghmfkgblheaa.Pure
open Go.RowKit Go.Proofs.Ytlcghmfkgblheaa.F Go.Proofs.YtlcghmfkgblheaaW.PrintWords Go.Proofs.YtlcghmfkgblheaaW.PrintLast Go.Proofs.YtlcghmfkgblheaaW.PrintMore
set_option linter.unusedVariables false

/-- Whether a tick lies in a stretch. -/
def within (t : Int) (s : S39) : Bool := decide (s.f0 ≤ t) && decide (t < s.f1)

/-- The last tick that counts (L: none so far). -/
def lastOf : List Int → Int → Int
  | [], L => L
  | x :: r, _ => lastOf r x

theorem lastOf_le : ∀ (l : List Int) (L T : Int), L ≤ T → (∀ x ∈ l, x ≤ T) → lastOf l L ≤ T
  | [], L, T, h, _ => h
  | x :: r, _, T, _, h => lastOf_le r x T (h x List.mem_cons_self) (fun y hy => h y (List.mem_cons_of_mem _ hy))
theorem lastOf_ge : ∀ (l : List Int) (L : Int), -1 ≤ L → (∀ x ∈ l, 0 ≤ x) → -1 ≤ lastOf l L
  | [], L, h, _ => h
  | x :: r, _, _, h => lastOf_ge r x (by have := h x List.mem_cons_self; omega) (fun y hy => h y (List.mem_cons_of_mem _ hy))

theorem runs_within (n T : Int) (hn : 1 ≤ n) : ∀ (l : List Int) (f t L : Int), (∀ x ∈ l, 0 ≤ x ∧ x ≤ T) → f ≤ T → 0 ≤ T → (L < 0 ∧ t = 0 ∨ 0 ≤ L ∧ t = L + n) →
    (runs n l f t).any (within T) = (decide (0 ≤ lastOf l L) && decide (T < lastOf l L + n))
  | [], f, t, L, _, hf, hT, ht => by
    unfold runs lastOf
    rcases ht with ⟨h1, rfl⟩ | ⟨h1, rfl⟩
    · simp; omega
    · rw [if_pos (by omega)]
      simp [within, hf, h1]
  | x :: r, f, t, L, h, hf, hT, ht => by
    obtain ⟨hx, hxT⟩ := h x List.mem_cons_self
    have ih := fun f' hf' => runs_within n T hn r f' (x + n) x (fun y hy => h y (List.mem_cons_of_mem _ hy)) hf' hT (.inr ⟨hx, rfl⟩)
    unfold runs lastOf
    split
    · rw [List.any_cons, ih x hxT]
      have : within T ⟨f, t⟩ = false := by simp [within]; omega
      rw [this, Bool.false_or]
    · split
      · exact ih x hxT
      · exact ih f hf

theorem hist_l2 (K : Nat) (R : List S39) (last t n L : Int) (hn : 1 ≤ n) (hn' : n ≤ 100000) (hL : -1 ≤ L) (hL' : L ≤ 1000) (ht : 0 ≤ t) (ht' : t ≤ 1000)
    (hany : R.any (within t) = decide (ticksLeft n L t > 0)) (hle : ticksLeft n L t ≤ n) (hnext : ticksLeft n L (t + 1) = mx 0 (ticksLeft n L t - 1)) (h0 : 0 ≤ ticksLeft n L t) (hRl : R.length ≤ 1000)
    (hgo : ∀ k, K ≤ k → L22_KeyHistory.l1 k R last (t + 1) [7, 42] n L = some true) :
    ∀ (m k i : Nat) (b : Bool), i + m = R.length → m + 9 + K ≤ k → (b || (R.drop i).any (within t)) = decide (ticksLeft n L t > 0) → L22_KeyHistory.l2 k R last t b i [7, 42] n L = some true := by
  intro m
  induction m with
  | zero =>
    intro k i b h1 h2 h3
    obtain ⟨k, rfl⟩ : ∃ j, k = j + 1 := ⟨k - 1, by omega⟩
    unfold L22_KeyHistory.l2
    rw [if_neg (by omega), valid_law (by omega) n L t hn hn' hL (by omega) ht (by omega), left_law (by omega) n L t hn hn' hL (by omega) ht (by omega), wrap_id (x := t + 1) (by omega) (by omega), left_law (by omega) n L (t + 1) hn hn' hL (by omega) (by omega) (by omega)]
    have hb : b = decide (ticksLeft n L t > 0) := by
      have : R.drop i = [] := List.drop_eq_nil_iff.2 (by omega)
      rw [this] at h3
      simpa using h3
    subst hb
    simp only [Option.bind_some, if_true]
    rw [if_neg (by simp), if_neg (by omega), wrap_id (x := ticksLeft n L t - 1) (by omega) (by omega), if_pos hnext, if_neg (by simp)]
    exact hgo k (by omega)
  | succ m ih =>
    intro k i b h1 h2 h3
    obtain ⟨k, rfl⟩ : ∃ j, k = j + 1 := ⟨k - 1, by omega⟩
    have hi : i < R.length := by omega
    have hd : R.drop i = R[i] :: R.drop (i + 1) := List.drop_eq_getElem_cons hi
    rw [hd, List.any_cons] at h3
    unfold L22_KeyHistory.l2
    rw [if_pos (by omega), wrap_id (x := (i : Int) + 1) (by omega) (by omega), if_pos (by omega : (0 : Int) ≤ (i : Int)), rd_T39_get hi]
    have ih' := fun b' h => ih k (i + 1) b' (by omega) (by omega) h
    rw [Int.natCast_add] at ih'
    cases b with
    | true => rw [if_pos rfl]; exact ih' true (by simpa using h3)
    | false =>
      rw [if_neg (by decide)]
      rw [Bool.false_or] at h3
      by_cases hf : R[i].f0 ≤ t
      · rw [if_pos hf]
        refine ih' _ ?_
        rw [← h3]
        simp [within, hf]
      · rw [if_neg hf]
        refine ih' _ ?_
        rw [← h3]
        simp [within, hf]

theorem hist_l1 (R : List S39) (last n L : Int) (hn : 1 ≤ n) (hn' : n ≤ 100000) (hL : -1 ≤ L) (hLl : L ≤ last) (h0 : 0 ≤ last) (h1 : last ≤ 480) (hRl : R.length ≤ 100)
    (hany : ∀ t, last ≤ t → R.any (within t) = (decide (0 ≤ L) && decide (t < L + n))) :
    ∀ (m k : Nat) (t : Int), last ≤ t → t + m = last + 60 → m * 200 + 200 ≤ k → L22_KeyHistory.l1 k R last t [7, 42] n L = some true := by
  intro m
  induction m with
  | zero =>
    intro k t h2 h3 h4
    obtain ⟨k, rfl⟩ : ∃ j, k = j + 1 := ⟨k - 1, by omega⟩
    unfold L22_KeyHistory.l1
    rw [wrap_id (by omega) (by omega), if_neg (by omega), awake_law (by omega)]
    rfl
  | succ m ih =>
    intro k t h2 h3 h4
    obtain ⟨k, rfl⟩ : ∃ j, k = j + 1 := ⟨k - 1, by omega⟩
    unfold L22_KeyHistory.l1
    rw [wrap_id (by omega) (by omega), if_pos (by omega)]
    have hlo : ticksLeft n L t = if L < 0 then 0 else mx 0 (L + n - t) := by
      unfold ticksLeft
      split
      · rfl
      · split
        · have : t = L := by omega
          omega
        · rfl
    have hlo' : ticksLeft n L (t + 1) = if L < 0 then 0 else mx 0 (L + n - (t + 1)) := by
      unfold ticksLeft
      split
      · rfl
      · rw [if_neg (by omega)]
    refine hist_l2 (m * 200 + 200) R last t n L hn hn' hL (by omega) (by omega) (by omega) ?_ ?_ ?_ ?_ (by omega) (fun k hk => ih k (t + 1) (by omega) (by omega) hk) R.length k 0 false (by omega) (by omega) ?_
    · rw [hany t h2, hlo]
      by_cases hneg : L < 0
      · rw [if_pos hneg]; simp; omega
      · rw [if_neg hneg]; unfold mx; rw [Bool.eq_iff_iff]; simp only [Bool.and_eq_true, decide_eq_true_eq]; split <;> omega
    · rw [hlo]; unfold mx; split <;> (try split) <;> omega
    · rw [hlo, hlo']; unfold mx; split <;> (try split) <;> (try split) <;> (try split) <;> omega
    · rw [hlo]; unfold mx; split <;> (try split) <;> omega
    · rw [Bool.false_or, List.drop_zero, hany t h2, hlo]
      by_cases hneg : L < 0
      · rw [if_pos hneg]; simp; omega
      · rw [if_neg hneg]; unfold mx; rw [Bool.eq_iff_iff]; simp only [Bool.and_eq_true, decide_eq_true_eq]; split <;> omega

def lastTick : List S37 → Int → Int
  | [], t => t
  | s :: r, _ => lastTick r s.f0

theorem ticks_cons (x : S37) (r : List S37) : ticks (x :: r) = if x.f1 = 9 then ticks r else x.f0 :: ticks r := by
  by_cases h : x.f1 = 9 <;> simp [ticks, h]

theorem hist_l0 (S : List S37) (R : List S39) (n : Int) (hn : 1 ≤ n) (hn' : n ≤ 100000) (hS : Hist S 480) (hSl : S.length ≤ 30) (Lf tf : Int)
    (hgo : ∀ k, 13000 ≤ k → L22_KeyHistory.l1 k R tf tf [7, 42] n Lf = some true) :
    ∀ (m k i : Nat) (L t : Int), i + m = S.length → 13020 + m ≤ k → -1 ≤ L → L ≤ 480 → (∀ x ∈ S.drop i, L ≤ x.f0) → lastOf (ticks (S.drop i)) L = Lf → lastTick (S.drop i) t = tf →
      L22_KeyHistory.l0 k S R t i [7, 42] n L = some true := by
  intro m
  induction m with
  | zero =>
    intro k i L t h1 h2 h3 h4 h5 h6 h7
    obtain ⟨k, rfl⟩ : ∃ j, k = j + 1 := ⟨k - 1, by omega⟩
    have hd : S.drop i = [] := List.drop_eq_nil_iff.2 (by omega)
    rw [hd] at h6 h7
    obtain rfl : L = Lf := h6
    obtain rfl : t = tf := h7
    unfold L22_KeyHistory.l0
    rw [if_neg (by omega)]
    exact hgo k (by omega)
  | succ m ih =>
    intro k i L t h1 h2 h3 h4 h5 h6 h7
    obtain ⟨k, rfl⟩ : ∃ j, k = j + 1 := ⟨k - 1, by omega⟩
    have hi : i < S.length := by omega
    have hd : S.drop i = S[i] :: S.drop (i + 1) := List.drop_eq_getElem_cons hi
    obtain ⟨a, b, c⟩ := hS.1 _ (List.getElem_mem hi)
    have hLi := h5 S[i] (by rw [hd]; exact List.mem_cons_self)
    unfold L22_KeyHistory.l0
    rw [if_pos (by omega), if_pos (by omega), rd_T37_get hi, present_law (by omega) n L S[i].f1 S[i].f0 hn hn' h3 (by omega) c a (by omega) hLi, wrap_id (by omega) (by omega)]
    simp only [Option.bind_some, if_true]
    have hp : ∀ x ∈ S.drop (i + 1), S[i].f0 ≤ x.f0 := by
      have := hS.2.sublist (List.drop_sublist i S)
      rw [hd, List.pairwise_cons] at this
      exact this.1
    have := ih k (i + 1) (if S[i].f1 = 9 then L else S[i].f0) S[i].f0 (by omega) (by omega) (by split <;> omega) (by split <;> omega) ?_ ?_ ?_
    · rw [Int.natCast_add] at this; exact this
    · intro x hx
      split
      · exact h5 x (by rw [hd]; exact List.mem_cons_of_mem _ hx)
      · exact hp x hx
    · rw [← h6, hd]
      by_cases h9 : S[i].f1 = 9
      · rw [if_pos h9, ticks_cons, if_pos h9]
      · rw [if_neg h9, ticks_cons, if_neg h9, lastOf]
    · rw [← h7, hd, lastTick]

theorem runs_length (n : Int) : ∀ (l : List Int) (f t : Int), (runs n l f t).length ≤ l.length + 1
  | [], f, t => by unfold runs; split <;> simp
  | x :: r, f, t => by
    unfold runs
    have h1 := runs_length n r x (x + n)
    have h2 := runs_length n r (if t = 0 then x else f) (x + n)
    split <;> simp <;> omega

theorem lastTick_ge : ∀ (S : List S37) (t : Int), S.Pairwise (fun a b => a.f0 ≤ b.f0) → (∀ s ∈ S, t ≤ s.f0) → t ≤ lastTick S t ∧ ∀ s ∈ S, s.f0 ≤ lastTick S t
  | [], t, _, _ => ⟨Int.le_refl _, fun _ h => (List.not_mem_nil h).elim⟩
  | s :: r, t, hp, h => by
    rw [List.pairwise_cons] at hp
    obtain ⟨h1, h2⟩ := lastTick_ge r s.f0 hp.2 hp.1
    have := h s List.mem_cons_self
    refine ⟨by unfold lastTick; omega, fun y hy => ?_⟩
    unfold lastTick
    rcases List.mem_cons.1 hy with rfl | hy
    · exact h1
    · exact h2 y hy
theorem lastTick_le : ∀ (S : List S37) (t T : Int), t ≤ T → (∀ s ∈ S, s.f0 ≤ T) → lastTick S t ≤ T
  | [], t, T, h, _ => h
  | s :: r, t, T, h, hs => lastTick_le r s.f0 T (hs s List.mem_cons_self) (fun y hy => hs y (List.mem_cons_of_mem _ hy))

theorem mem_ticks {S : List S37} {x : Int} (h : x ∈ ticks S) : ∃ s ∈ S, s.f0 = x := by
  simp only [ticks, List.mem_map, List.mem_filter] at h
  obtain ⟨s, ⟨hs, _⟩, e⟩ := h
  exact ⟨s, hs, e⟩

theorem KeyHistory : L22_KeyHistory.Pure := by
  intro l0 a1 _ _ _ hw
  refine ⟨14000, ?_⟩
  unfold L22_KeyHistory.f
  rw [mod25]
  simp only [Option.bind_some]
  obtain ⟨n, hn⟩ : ∃ n, n = 1 + a1 % 25 := ⟨_, rfl⟩
  rw [← hn, wrap_id (by omega) (by omega), new_law (by omega) n (by omega) (by omega)]
  obtain ⟨S, T, hs, hS, hT0, hT, hSl⟩ := stamps_holds l0
  rw [le_fuel (f := fun k => L22_stamps.f k l0) (fun k => L22_stamps.mono _ _) (by omega : 31 ≤ 14000) hs]
  simp only [Option.bind_some, if_true]
  rw [stretches_law S T hS hT hSl n (by omega) (by omega)]
  simp only [Option.bind_some, if_true]
  have hS' : Hist S 480 := ⟨fun s h => ⟨(hS.1 s h).1, by have := (hS.1 s h).2.1; omega, (hS.1 s h).2.2⟩, hS.2⟩
  have hpos : ∀ x ∈ ticks S, 0 ≤ x := fun x hx => by obtain ⟨s, h, rfl⟩ := mem_ticks hx; exact (hS.1 s h).1
  obtain ⟨g1, g2⟩ := lastTick_ge S 0 hS.2 (fun s h => (hS.1 s h).1)
  have g3 := lastTick_le S 0 480 (by omega) (fun s h => (hS'.1 s h).2.1)
  have hle : ∀ x ∈ ticks S, x ≤ lastTick S 0 := fun x hx => by obtain ⟨s, h, rfl⟩ := mem_ticks hx; exact g2 s h
  refine hist_l0 S _ n (by omega) (by omega) hS' hSl (lastOf (ticks S) (-1)) (lastTick S 0) (fun k hk => ?_) S.length 14000 0 (-1) 0 (by omega) (by omega) (by omega) (by omega) (fun x hx => by have := (hS.1 x hx).1; omega) rfl rfl
  refine hist_l1 _ (lastTick S 0) n _ (by omega) (by omega) (lastOf_ge _ _ (by omega) hpos) (lastOf_le _ _ _ (by omega) hle) g1 g3 ?_ (fun t ht => ?_) 60 k _ (by omega) (by omega) (by omega)
  · have h1 := runs_length n (ticks S) 0 0
    have h2 : (ticks S).length ≤ S.length := by simp only [ticks, List.length_map]; exact List.length_filter_le _ _
    omega
  · exact runs_within n t (by omega) (ticks S) 0 0 (-1) (fun x hx => ⟨hpos x hx, by have := hle x hx; omega⟩) (by omega) (by omega) (.inl ⟨by omega, rfl⟩)

end Go.Proofs.Ytlcghmfkgblheaa.Pure

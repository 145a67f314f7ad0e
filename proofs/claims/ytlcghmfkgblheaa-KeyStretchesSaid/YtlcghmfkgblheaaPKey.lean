/- Plain laws on the printed functions of package key at the keys 7 and 42: what they reckon. No program in sight. -/
import Derived.Test.YtlcghmfkgblheaaF5
import Derived.KernelRfl
namespace Go.Proofs.Ytlcghmfkgblheaa.F
open Go.RowKit Go.Proofs.YtlcghmfkgblheaaW.PrintWords Go.Proofs.YtlcghmfkgblheaaW.PrintLast Go.Proofs.YtlcghmfkgblheaaW.PrintMore
set_option linter.unusedVariables false
set_option linter.unusedSimpArgs false

theorem le_fuel {α : Type} {f : Nat → Option α} (h : ∀ k, LeO (f k) (f (k + 1))) {n m : Nat} (hnm : n ≤ m) {r : α} (e : f n = some r) : f m = some r := by
  induction hnm with
  | refl => exact e
  | step _ ih => exact h _ _ ih

theorem wrap_id {x : Int} (h0 : -9223372036854775808 ≤ x) (h1 : x ≤ 9223372036854775807) : wrap64 x = x := by unfold wrap64; omega

theorem tmod_pos {a m : Int} (h : 0 ≤ a) : Int.tmod a m = a % m := Int.tmod_eq_emod_of_nonneg h
theorem tmod_neg {a m : Int} (h : a < 0) : Int.tmod a m = -((-a) % m) := by
  have := Int.neg_tmod (-a) m
  rw [Int.neg_neg] at this
  rw [this, Int.tmod_eq_emod_of_nonneg (by omega)]

theorem mod25 (a : Int) : K_Mod.f a 25 = some (a % 25) := by
  unfold K_Mod.f
  rw [if_neg (by omega), if_neg (by omega)]
  by_cases h : 0 ≤ a
  · rw [tmod_pos h, if_neg (by omega)]
  · rw [tmod_neg (by omega)]
    split
    · rw [wrap_id (by omega) (by omega)]; congr 1; omega
    · congr 1; omega
theorem mod65536 (a : Int) : K_Mod.f a 65536 = some (a % 65536) := by
  unfold K_Mod.f
  rw [if_neg (by omega), if_neg (by omega)]
  by_cases h : 0 ≤ a
  · rw [tmod_pos h, if_neg (by omega)]
  · rw [tmod_neg (by omega)]
    split
    · rw [wrap_id (by omega) (by omega)]; congr 1; omega
    · congr 1; omega

/-- A history: ticks in order, up to T; keys 7, 42, 9. -/
def Hist (l : List S37) (T : Int) : Prop := (∀ s ∈ l, 0 ≤ s.f0 ∧ s.f0 ≤ T ∧ (s.f1 = 7 ∨ s.f1 = 42 ∨ s.f1 = 9)) ∧ l.Pairwise (fun a b => a.f0 ≤ b.f0)

theorem rd_keys (j : Int) (h0 : 0 ≤ j) (h1 : j < 3) : rd [7, 42, 9] j = 7 ∨ rd [7, 42, 9] j = 42 ∨ rd [7, 42, 9] j = 9 := by
  have : j = 0 ∨ j = 1 ∨ j = 2 := by omega
  rcases this with rfl | rfl | rfl <;> simp [rd]

theorem stamps_law (x0 : List Int) : ∀ (k i : Nat) (x3 : List S37) (t : Int), 31 ≤ i + k → i ≤ 30 → x3.length = i → 0 ≤ t → t ≤ 16 * i → Hist x3 t →
    ∃ S T, L22_stamps.l0 k x0 x3 t i = some S ∧ Hist S T ∧ 0 ≤ T ∧ T ≤ 480 ∧ S.length ≤ 30 := by
  intro k
  induction k with
  | zero => intro i x3 t h1 h2; omega
  | succ k ih =>
    intro i x3 t h1 h2 h3 h4 h5 h6
    unfold L22_stamps.l0
    split
    · split
      · rw [if_pos (by omega), mod65536]
        obtain ⟨q, hq⟩ : ∃ q, q = rd x0 i % 65536 := ⟨_, rfl⟩
        rw [← hq]
        have hq0 : 0 ≤ q := by omega
        have hq1 : q < 65536 := by omega
        simp only [Option.bind_some]
        rw [Int.tdiv_eq_ediv_of_nonneg hq0, wrap_id (by omega) (by omega), tmod_pos hq0, tmod_pos (by omega), if_pos (by omega), if_pos (by simp; omega), if_pos (by omega), wrap_id (x := t + q % 17) (by omega) (by omega), wrap_id (x := (i : Int) + 1) (by omega) (by omega)]
        have := ih (i + 1) (x3 ++ [⟨t + q % 17, rd [7, 42, 9] (q / 17 % 3)⟩]) (t + q % 17) (by omega) (by omega) (by simp; omega) (by omega) (by omega) ⟨?_, ?_⟩
        · simpa using this
        · intro s hs
          rcases List.mem_append.1 hs with hs | hs
          · obtain ⟨a, b, c⟩ := h6.1 s hs
            exact ⟨a, by omega, c⟩
          · rw [List.mem_singleton] at hs
            subst hs
            exact ⟨by show 0 ≤ t + q % 17; omega, Int.le_refl _, rd_keys _ (by omega) (by omega)⟩
        · refine List.pairwise_append.2 ⟨h6.2, List.pairwise_singleton _ _, fun a ha b hb => ?_⟩
          rw [List.mem_singleton] at hb
          subst hb
          have := (h6.1 a ha).2.1
          show a.f0 ≤ t + q % 17
          omega
      · exact ⟨x3, t, rfl, h6, h4, by omega, by omega⟩
    · exact ⟨x3, t, rfl, h6, h4, by omega, by omega⟩

theorem stamps_holds (x0 : List Int) : ∃ S T, L22_stamps.f 31 x0 = some S ∧ Hist S T ∧ 0 ≤ T ∧ T ≤ 480 ∧ S.length ≤ 30 :=
  stamps_law x0 31 0 [] 0 (by omega) (by omega) rfl (by omega) (by omega) ⟨fun _ h => (List.not_mem_nil h).elim, List.Pairwise.nil⟩

/-! ### the keys 7, 42 -/
theorem check_law {K : Nat} (hK : 3 ≤ K) (n L : Int) (hn : 1 ≤ n) (hn' : n ≤ 100000) (hL : -1 ≤ L) (hL' : L ≤ 1099511627776) : key_Check.f K [7, 42] n L = some 0 := by
  refine le_fuel (f := fun k => key_Check.f k [7, 42] n L) (fun k => key_Check.mono _ _ _ _) hK ?_
  have e1 : key_in.f n 1 100000 = some true := by unfold key_in.f; rw [if_pos hn, decide_eq_true hn']
  have e2 : key_in.f L (-1) 1099511627776 = some true := by unfold key_in.f; rw [if_pos hL, decide_eq_true hL']
  simp [key_Check.f, key_Check.l0, rd, e1, e2]
  simp [key_in.f, wrap64]

theorem knows_law {K : Nat} (hK : 8 ≤ K) (n L x : Int) (hx : x = 7 ∨ x = 42 ∨ x = 9) : key_knows.f K [7, 42] n L x = some (x != 9) := by
  refine le_fuel (f := fun k => key_knows.f k [7, 42] n L x) (fun k => key_knows.mono _ _ _ _ _) hK ?_
  rcases hx with rfl | rfl | rfl <;> kernel_rfl

theorem own_law : key_own_int_int.f [7, 42] = some [7, 42] := by kernel_rfl

theorem present_law {K : Nat} (hK : 9 ≤ K) (n L x t : Int) (hn : 1 ≤ n) (hn' : n ≤ 100000) (hL : -1 ≤ L) (hL' : L ≤ 1099511627776) (hx : x = 7 ∨ x = 42 ∨ x = 9) (ht : 0 ≤ t) (ht' : t ≤ 1099511627776) (hLt : L ≤ t) :
    key_Present.f K [7, 42] n L x t = some ([7, 42], n, (if x = 9 then L else t), x != 9, 0) := by
  obtain ⟨K, rfl⟩ : ∃ j, K = j + 1 := ⟨K - 1, by omega⟩
  have e1 : key_in.f x 1 99 = some true := by unfold key_in.f; rw [if_pos (by omega), decide_eq_true (by omega)]
  have e2 : key_in.f t 0 1099511627776 = some true := by unfold key_in.f; rw [if_pos ht, decide_eq_true ht']
  unfold key_Present.f key_Present.j0
  rw [check_law (by omega) n L hn hn' hL hL']
  simp only [Option.bind_some, if_true, e1, e2, Bool.not_true, Bool.false_eq_true, if_false]
  rw [if_neg (by omega), own_law, knows_law (by omega) n L x hx]
  by_cases h : x = 9
  · subst h; rfl
  · have : (x != 9) = true := bne_iff_ne.mpr h
    simp [this, h]

/-- For how long a state is valid. -/
def ticksLeft (n L t : Int) : Int := if L < 0 then 0 else if t < L then 0 else mx 0 (L + n - t)
theorem left_law {K : Nat} (hK : 3 ≤ K) (n L t : Int) (hn : 1 ≤ n) (hn' : n ≤ 100000) (hL : -1 ≤ L) (hL' : L ≤ 1099511627776) (ht : 0 ≤ t) (ht' : t ≤ 1099511627776) : key_Left.f K [7, 42] n L t = some (ticksLeft n L t, 0) := by
  have e2 : key_in.f t 0 1099511627776 = some true := by unfold key_in.f; rw [if_pos ht, decide_eq_true ht']
  unfold key_Left.f ticksLeft
  rw [check_law hK n L hn hn' hL hL']
  simp only [Option.bind_some, if_true, e2]
  split
  · rfl
  · split
    · rfl
    · rw [wrap_id (x := L + n) (by omega) (by omega), wrap_id (by omega) (by omega)]
theorem valid_law {K : Nat} (hK : 3 ≤ K) (n L t : Int) (hn : 1 ≤ n) (hn' : n ≤ 100000) (hL : -1 ≤ L) (hL' : L ≤ 1099511627776) (ht : 0 ≤ t) (ht' : t ≤ 1099511627776) : key_Valid.f K [7, 42] n L t = some (decide (ticksLeft n L t > 0), 0) := by
  unfold key_Valid.f
  rw [left_law hK n L t hn hn' hL hL' ht ht']
  rfl
theorem new_law {K : Nat} (hK : 3 ≤ K) (n : Int) (hn : 1 ≤ n) (hn' : n ≤ 100000) : key_New.f K [7, 42] n = some ([7, 42], n, -1, 0) := by
  unfold key_New.f
  rw [own_law]
  simp only [Option.bind_some]
  rw [check_law hK n (-1) hn hn' (by omega) (by omega)]
  rfl

theorem rd_T37_get {l : List S37} {i : Nat} (h : i < l.length) : rd_T37 l (i : Int) = l[i] := by simp [rd_T37, List.getD_eq_getElem?_getD, List.getElem?_eq_getElem h]
theorem rd_T39_get {l : List S39} {i : Nat} (h : i < l.length) : rd_T39 l (i : Int) = l[i] := by simp [rd_T39, List.getD_eq_getElem?_getD, List.getElem?_eq_getElem h]

theorem wrong_loop (S : List S37) (T : Int) (hS : Hist S T) (hT : T ≤ 480) : ∀ (m k i : Nat), i + m = S.length → 2 * m + 1 ≤ k → S.length ≤ 2000 → key_wrong.l0 k S S (S.length : Int) i = some 0 := by
  intro m
  induction m with
  | zero =>
    intro k i h1 h2 h3
    obtain ⟨k, rfl⟩ : ∃ j, k = j + 1 := ⟨k - 1, by omega⟩
    unfold key_wrong.l0
    rw [if_neg (by omega)]
  | succ m ih =>
    intro k i h1 h2 h3
    obtain ⟨k, rfl⟩ : ∃ j, k = j + 1 + 1 := ⟨k - 2, by omega⟩
    have hi : i < S.length := by omega
    unfold key_wrong.l0 key_wrong.j1
    rw [if_pos (by omega), if_pos (by omega), if_pos (by omega), rd_T37_get hi]
    obtain ⟨a, b, c⟩ := hS.1 _ (List.getElem_mem hi)
    have e1 : key_in.f (S[i].f1) 1 99 = some true := by unfold key_in.f; rw [if_pos (by omega), decide_eq_true (by omega)]
    have e2 : key_in.f (S[i].f0) 0 1099511627776 = some true := by unfold key_in.f; rw [if_pos a, decide_eq_true (by omega)]
    simp only [e1, e2, Option.bind_some, if_true, Bool.not_true, Bool.false_eq_true, if_false]
    rw [wrap_id (x := (i : Int) + 1) (by omega) (by omega)]
    have := ih k (i + 1) (by omega) (by omega) h3
    rw [Int.natCast_add] at this
    by_cases h0 : i = 0
    · subst h0
      simpa using this
    · obtain ⟨j, rfl⟩ : ∃ j, i = j + 1 := ⟨i - 1, by omega⟩
      rw [if_pos (by omega), wrap_id (by omega) (by omega), if_pos (by omega), if_pos (by omega)]
      have hj : (((j + 1 : Nat) : Int) - 1) = (j : Nat) := by omega
      rw [hj, rd_T37_get (by omega)]
      have hp := List.pairwise_iff_getElem.1 hS.2 j (j + 1) (by omega) hi (by omega)
      rw [if_neg (by omega)]
      exact this

theorem wrong_law {K : Nat} (S : List S37) (T : Int) (hS : Hist S T) (hT : T ≤ 480) (hl : S.length ≤ 30) (hK : 100 ≤ K) (n : Int) (hn : 1 ≤ n) (hn' : n ≤ 100000) : key_wrong.f K [7, 42] n (-1) S = some 0 := by
  unfold key_wrong.f
  rw [check_law (by omega) n (-1) hn hn' (by omega) (by omega)]
  simp only [Option.bind_some, if_true]
  rw [if_neg (by omega)]
  exact wrong_loop S T hS hT S.length K 0 (by omega) (by omega) (by omega)

/-- The ticks that count. -/
def ticks (S : List S37) : List Int := (S.filter (fun s => s.f1 != 9)).map (·.f0)
/-- The stretches of ticks. -/
def runs (n : Int) : List Int → Int → Int → List S39
  | [], f, t => if t > 0 then [⟨f, t⟩] else []
  | x :: r, f, t => if t > 0 ∧ x > t then ⟨f, t⟩ :: runs n r x (x + n) else runs n r (if t = 0 then x else f) (x + n)

theorem strRun_law (n : Int) (hn : 1 ≤ n) (hn' : n ≤ 100000) : ∀ (S : List S37) (f t : Int) (acc : List S39), (∀ s ∈ S, 0 ≤ s.f0 ∧ s.f0 ≤ 480 ∧ (s.f1 = 7 ∨ s.f1 = 42 ∨ s.f1 = 9)) →
    strRun [7, 42] n (-1) S f t acc = some (acc ++ runs n (ticks S) f t)
  | [], f, t, acc, _ => by
    unfold strRun
    show _ = some (acc ++ if t > 0 then [⟨f, t⟩] else [])
    split <;> simp
  | x :: r, f, t, acc, h => by
    obtain ⟨a, b, c⟩ := h x List.mem_cons_self
    have hr := fun s hs => h s (List.mem_cons_of_mem _ hs)
    unfold strRun
    rw [knows_law (by omega) n (-1) x.f1 c, wrap_id (by omega) (by omega)]
    simp only [Option.bind_some]
    by_cases h9 : x.f1 = 9
    · have e : (x.f1 != 9) = false := by rw [h9]; rfl
      rw [e, if_neg (by decide), strRun_law n hn hn' r f t acc hr]
      simp [ticks, e]
    · have e : (x.f1 != 9) = true := bne_iff_ne.mpr h9
      have e2 : ticks (x :: r) = x.f0 :: ticks r := by simp [ticks, e]
      rw [e, if_pos rfl, e2, runs]
      split
      · rw [strRun_law n hn hn' r _ _ _ hr]; simp
      · rw [strRun_law n hn hn' r _ _ _ hr]

theorem stretches_law (S : List S37) (T : Int) (hS : Hist S T) (hT : T ≤ 480) (hl : S.length ≤ 30) (n : Int) (hn : 1 ≤ n) (hn' : n ≤ 100000) : key_Stretches.f [7, 42] n (-1) S = some (runs n (ticks S) 0 0, 0) := by
  unfold key_Stretches.f
  rw [wrong_law S T hS hT hl (by omega) n hn hn']
  simp only [Option.bind_some, if_true]
  rw [if_pos (by omega), strRun_law n hn hn' S 0 0 [] (fun s hs => ⟨(hS.1 s hs).1, by have := (hS.1 s hs).2.1; omega, (hS.1 s hs).2.2⟩)]
  rfl

theorem awake_law {K : Nat} (hK : 80 ≤ K) : L22_awake.f K = some true :=
  le_fuel (f := fun k => L22_awake.f k) (fun k => L22_awake.mono k) hK (by kernel_rfl)

end Go.Proofs.Ytlcghmfkgblheaa.F

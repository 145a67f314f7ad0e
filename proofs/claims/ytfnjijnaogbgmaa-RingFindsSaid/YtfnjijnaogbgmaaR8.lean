/- Rings: plain laws. -/
import Derived.Test.YtfnjijnaogbgmaaR7
namespace Go.Sx.Ytfnjijnaogbgmaa
open Go Go.Sx Go.Proofs
set_option linter.unusedVariables false
set_option linter.unusedSimpArgs false
set_option maxRecDepth 100000

/-- A valid ring. -/
structure RingV (r : Ring) : Prop where
  cap : 1 ≤ r.1 ∧ r.1 ≤ 32
  next : 1 ≤ r.2.1 ∧ r.2.1 ≤ 1099511627777
  len : (r.2.2.1.length : Int) ≤ r.1
  nums : ∀ h ∈ r.2.2.1, 1 ≤ h.1 ∧ h.1 < r.2.1
  asc : r.2.2.1.Pairwise fun a b : Held => a.1 < b.1
theorem getH {l : List Held} {i : Nat} (h : i < l.length) : l.getD i zH = l[i] := by
  rw [List.getD_eq_getElem?_getD, List.getElem?_eq_getElem h]; rfl
theorem getH_mem {l : List Held} {i : Nat} (h : i < l.length) : l.getD i zH ∈ l := by
  rw [getH h]; exact List.getElem_mem h
theorem RingV.ok {r : Ring} (h : RingV r) : RingOk r := by
  refine ⟨h.cap, h.next, h.len, fun i hi => h.nums _ (getH_mem hi), fun i h0 hi => ?_⟩
  have := List.pairwise_iff_getElem.1 h.asc (i - 1) i (by omega) hi (by omega)
  rw [getH hi, getH (show i - 1 < r.2.2.1.length by omega)]
  exact this
theorem RingV.check {r : Ring} (h : RingV r) : ringC r = (0, 0) := h.ok.check
theorem RingV.putF {r : Ring} (h : RingV r) {w : Int} (hl : (r.2.2.1.length : Int) = r.1) : putR r w = (zRing, 0, 5) := by
  rw [putR, if_neg (by rw [h.check]; decide), if_pos (show nI r.2.2.1.length = r.1 from hl)]
theorem RingV.putK {r : Ring} (h : RingV r) {w : Int} (hl : ¬ (r.2.2.1.length : Int) = r.1) (hn : r.2.1 ≤ 1099511627776) : putR r w = ((r.1, r.2.1 + 1, r.2.2.1 ++ [(r.2.1, w, ())], ()), r.2.1, 0) ∧ RingV (r.1, r.2.1 + 1, r.2.2.1 ++ [(r.2.1, w, ())], ()) := by
  have h1 := h.cap
  have h2 := h.next
  have h3 := h.len
  refine ⟨by rw [putR, if_neg (by rw [h.check]; decide), if_neg (show ¬ nI r.2.2.1.length = r.1 from hl), if_neg (by omega)], h1, ⟨by simp only; omega, by simp only; omega⟩, ?_, ?_, ?_⟩
  · simp only [List.length_append, List.length_cons, List.length_nil]
    omega
  · intro x hx
    simp only at hx ⊢
    rcases List.mem_append.1 hx with hx | hx
    · have := h.nums x hx; omega
    · rw [List.mem_singleton.1 hx]; simp only; omega
  · simp only
    rw [List.pairwise_append]
    refine ⟨h.asc, by simp, fun a ha b hb => ?_⟩
    rw [List.mem_singleton.1 hb]
    have := h.nums a ha
    simp only
    omega
theorem RingV.sub {r : Ring} (h : RingV r) {l : List Held} (hs : l.Sublist r.2.2.1) : RingV (r.1, r.2.1, l, ()) := by
  have h3 := h.len
  refine ⟨h.cap, h.next, ?_, fun x hx => h.nums x (hs.subset hx), h.asc.sublist hs⟩
  have := hs.length_le
  simp only
  omega
theorem find_err {r : Ring} (h : RingV r) (x : Int) : (findR r x).2 = 0 ∨ (findR r x).2 = 6 := by
  rw [findR, if_neg (by rw [h.check]; decide)]
  split
  · exact .inl rfl
  · exact .inr rfl
theorem cut_sub (l : List Held) (i : Nat) : (l.take i ++ l.drop (i + 1)).Sublist l := by
  rw [← List.eraseIdx_eq_take_drop_succ]
  exact List.eraseIdx_sublist ..
theorem RingV.dropK {r : Ring} (h : RingV r) {x : Int} (hf : (findR r x).2 = 0) : (dropR r x).2.2 = 0 ∧ RingV (dropR r x).1 ∧ (dropR r x).1.1 = r.1 ∧ (dropR r x).1.2.1 = r.2.1 := by
  rw [dropR, if_neg (by rw [hf]; decide)]
  exact ⟨rfl, h.sub (cut_sub _ _), rfl, rfl⟩
theorem RingV.dropF {r : Ring} (h : RingV r) {x : Int} (hf : ¬ (findR r x).2 = 0) : dropR r x = (zRing, zH, 6) := by
  rw [dropR, if_pos hf]
  rcases find_err h x with q | q
  · exact absurd q hf
  · rw [q]
theorem RingV.wipeK {r : Ring} (h : RingV r) (ws : List Int) : (wipeR r ws).2.2 = 0 ∧ RingV (wipeR r ws).1 ∧ (wipeR r ws).1.1 = r.1 ∧ (wipeR r ws).1.2.1 = r.2.1 := by
  rw [wipeR, if_neg (by rw [h.check]; decide)]
  exact ⟨rfl, h.sub List.filter_sublist, rfl, rfl⟩
def stepM (r : Ring) (num : Int) : Ring :=
  let k := modS num 1048576
  if k % 6 < 4 then (if (putR r (k / 6 % 5)).2.2 = 0 then (putR r (k / 6 % 5)).1 else r)
  else if k % 6 = 4 then (if (dropR r (1 + k / 6 % 40)).2.2 = 0 then (dropR r (1 + k / 6 % 40)).1 else r)
  else (wipeR r [k / 6 % 9]).1
def madeR (n : Int) (nums : List Int) : Ring := (nums.take 60).foldl stepM (1 + modS n 32, 1, [], ())
theorem stepM_ok {r : Ring} (h : RingV r) (num : Int) (hn : r.2.1 ≤ 1000000) : RingV (stepM r num) ∧ (stepM r num).1 = r.1 ∧ (stepM r num).2.1 ≤ r.2.1 + 1 := by
  unfold stepM
  simp only
  generalize modS num 1048576 = k
  split
  · by_cases hl : (r.2.2.1.length : Int) = r.1
    · rw [h.putF hl, if_neg (by decide)]
      exact ⟨h, rfl, by omega⟩
    · obtain ⟨h1, h2⟩ := h.putK (w := k / 6 % 5) hl (by omega)
      rw [h1, if_pos rfl]
      exact ⟨h2, rfl, Int.le_refl _⟩
  · split
    · by_cases hf : (findR r (1 + k / 6 % 40)).2 = 0
      · obtain ⟨h1, h2, h3, h4⟩ := h.dropK hf
        rw [if_pos h1]
        exact ⟨h2, h3, by omega⟩
      · rw [h.dropF hf, if_neg (by decide)]
        exact ⟨h, rfl, by omega⟩
    · obtain ⟨h1, h2, h3, h4⟩ := h.wipeK [k / 6 % 9]
      exact ⟨h2, h3, by omega⟩
theorem new_ok {c : Int} (h1 : 1 ≤ c) (h2 : c ≤ 32) : RingV (c, 1, [], ()) := ⟨⟨h1, h2⟩, ⟨by simp only; omega, by simp only; omega⟩, by simp only [List.length_nil]; omega, fun h hh => by simp at hh, List.Pairwise.nil⟩
theorem made_go : ∀ (ns : List Int) (r : Ring), RingV r → r.2.1 + ns.length ≤ 1000000 → RingV (ns.foldl stepM r) ∧ (ns.foldl stepM r).1 = r.1 ∧ (ns.foldl stepM r).2.1 ≤ r.2.1 + ns.length
  | [], r, h, _ => ⟨h, rfl, by simp⟩
  | n :: ns, r, h, hn => by
    simp only [List.length_cons] at hn ⊢
    obtain ⟨h1, h2, h3⟩ := stepM_ok h n (by omega)
    have := made_go ns (stepM r n) h1 (by omega)
    rw [List.foldl_cons]
    exact ⟨this.1, by rw [this.2.1, h2], by have := this.2.2; omega⟩
theorem madeR_ok (n : Int) (nums : List Int) : RingV (madeR n nums) ∧ (madeR n nums).2.1 ≤ 61 := by
  have hk := modS_in n (show (0 : Int) < 32 by decide)
  have hl : (nums.take 60).length ≤ 60 := by rw [List.length_take]; omega
  have := made_go (nums.take 60) (1 + modS n 32, 1, [], ()) (new_ok (by omega) (by omega)) (by simp only; omega)
  exact ⟨this.1, by have := this.2.2; rw [← madeR] at this; simp only at this; omega⟩
end Go.Sx.Ytfnjijnaogbgmaa

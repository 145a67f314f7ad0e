/- Part 3 of TableKeeps: what the functions reckon, step by step, and plain laws. No condition. -/
import Derived.Test.YtmfbpkjhabdcgaaKTableKeepsx2
section
/- The plain law TableKeeps of chapter 21: the printed function answers true at every table that is made of numbers, floor and car. No condition but those of the row. -/
namespace Go.Proofs.Ytmfbpkjhabdcgaa.Pure
open Go.RowKit Go.Proofs.Ytmfbpkjhabdcgaa.F Go.Proofs.YtmfbpkjhabdcgaaW.PrintWords Go.Proofs.YtmfbpkjhabdcgaaW.PrintLast Go.Proofs.YtmfbpkjhabdcgaaW.PrintMore
set_option linter.unusedVariables false
set_option linter.unusedSimpArgs false

theorem awakeK {k : Nat} (hk : 80 ≤ k) : L21_awake.f k = some true := le_fuel L21_awake.mono hk (by kernel_rfl)

theorem rd_k (l : List S29) (i : Nat) (h : i < l.length) : rd_T29 l (i : Int) = l[i] := by simp [rd_T29, List.getD_eq_getElem?_getD, List.getElem?_eq_getElem h]

def servedK (x1 x2 : Int) (x : S29) : Bool := x.f1 == x1 && (x.f0 != 3 || x.f2 == x2)

theorem serve_valid {a : Int} {l : List S29} (h : ValidT a l) (f c : Int) (f0 : 0 ≤ f) (f1 : f < 6) (c0 : 1 ≤ c) (c1 : c ≤ 3) :
    table_Serve.f a l f c = some (a, l.filter (fun x => !servedK f c x), l.filter (servedK f c), 0) := by
  unfold table_Serve.f
  rw [valid_valid h]
  have := h.len; have := h.hi
  simp only [Option.bind_some, if_true]
  rw [if_neg (by omega), if_neg (by omega), if_neg (by omega), if_neg (by omega), if_pos (by omega)]
  rfl

theorem wipe_valid {a : Int} {l : List S29} (h : ValidT a l) : table_Wipe.f a l = some (a, l.filter (fun x => x.f0 != 3), l.filter (fun x => !(x.f0 != 3)), 0) := by
  unfold table_Wipe.f
  rw [valid_valid h]
  have := h.len; have := h.hi
  simp only [Option.bind_some, if_true]
  rw [if_pos (by omega)]
  simp only [Bool.not_not]

theorem of_valid {a : Int} {l : List S29} (h : ValidT a l) (c : Int) (c0 : 1 ≤ c) (c1 : c ≤ 3) : table_Of.f a l c = some (l.filter (fun x => x.f2 == c), 0) := by
  unfold table_Of.f
  rw [valid_valid h]
  have := h.len; have := h.hi
  simp only [Option.bind_some, if_true]
  rw [if_neg (by omega), if_neg (by omega), if_pos (by omega)]

/-! ### the floors of hall calls -/
def bitOf (x : S29) : Int := shl .u64 1 (IntKind.u64.wrap x.f1)
def hallsOf : List S29 → Int → Int → Int × Int
  | [], u, v => (u, v)
  | x :: r, u, v => if x.f0 = 1 then hallsOf r (Go.bits .or .u64 u (bitOf x)) v else if x.f0 = 2 then hallsOf r u (Go.bits .or .u64 v (bitOf x)) else hallsOf r u v

theorem u64_nonneg (x : Int) : 0 ≤ IntKind.u64.wrap x := by
  have h : IntKind.u64.wrap x = x % 18446744073709551616 := by simp [IntKind.wrap, IntKind.bits, IntKind.signed]
  rw [h]
  exact Int.emod_nonneg _ (by decide)

theorem halls_loop (l : List S29) (hl : l.length ≤ 64) : ∀ (d j k : Nat) (u v : Int), j + d = l.length → d + 1 ≤ k →
    table_Halls.l0 k u v l (l.length : Int) j = some ((hallsOf (l.drop j) u v).1, (hallsOf (l.drop j) u v).2, 0)
  | 0, j, k, u, v, h, hk => by
    obtain ⟨k, rfl⟩ : ∃ i, k = i + 1 := ⟨k - 1, by omega⟩
    rw [table_Halls.l0, if_neg (by omega), List.drop_eq_nil_of_le (by omega)]
    rfl
  | d + 1, j, k, u, v, h, hk => by
    obtain ⟨k, rfl⟩ : ∃ i, k = i + 1 := ⟨k - 1, by omega⟩
    have hj : j < l.length := by omega
    have ih := fun u v => halls_loop l hl d (j + 1) k u v (by omega) (by omega)
    have hlt : (j : Int) < (l.length : Int) := by omega
    have h0 : (0 : Int) ≤ (j : Int) := by omega
    have ew : wrap64 ((j : Int) + 1) = ((j + 1 : Nat) : Int) := by rw [wrap_id (by omega) (by omega)]; omega
    rw [table_Halls.l0, if_pos hlt, if_pos h0, if_pos hlt, rd_k l j hj, if_pos (u64_nonneg _), ew, List.drop_eq_getElem_cons hj, hallsOf]
    by_cases h1 : l[j].f0 = 1
    · rw [if_pos h1, if_pos h1]
      exact ih _ _
    · rw [if_neg h1, if_neg h1]
      by_cases h2 : l[j].f0 = 2
      · rw [if_pos h2, if_pos h2]
        exact ih _ _
      · rw [if_neg h2, if_neg h2]
        exact ih _ _

theorem halls_valid {k : Nat} (hk : 70 ≤ k) {a : Int} {l : List S29} (h : ValidT a l) : table_Halls.f k a l = some ((hallsOf l 0 0).1, (hallsOf l 0 0).2, 0) := by
  unfold table_Halls.f
  rw [valid_valid h]
  have := h.len; have := h.hi
  simp only [Option.bind_some, if_true]
  exact halls_loop l (by omega) l.length 0 k 0 0 (by omega) (by omega)

theorem halls_filter : ∀ (l : List S29) (u v : Int), hallsOf (l.filter (fun x => x.f0 != 3)) u v = hallsOf l u v
  | [], _, _ => rfl
  | x :: r, u, v => by
    by_cases h3 : x.f0 = 3
    · rw [List.filter_cons_of_neg (by simp [h3]), halls_filter r, hallsOf, if_neg (by omega), if_neg (by omega)]
    · rw [List.filter_cons_of_pos (by simpa using h3), hallsOf, hallsOf, halls_filter r, halls_filter r, halls_filter r]

/-- A small mask without the bit of a floor. -/
def NoBit (f : Int) (u : Int) : Prop := ∃ n : Nat, u = n ∧ n < 64 ∧ n.testBit f.toNat = false

theorem bit_small (x : S29) (h0 : 0 ≤ x.f1) (h1 : x.f1 < 6) : bitOf x = ((2 ^ x.f1.toNat : Nat) : Int) := by
  unfold bitOf
  have : x.f1 = 0 ∨ x.f1 = 1 ∨ x.f1 = 2 ∨ x.f1 = 3 ∨ x.f1 = 4 ∨ x.f1 = 5 := by omega
  rcases this with h | h | h | h | h | h <;> rw [h] <;> first | rfl | decide

theorem nobit_or {f u : Int} (hf : 0 ≤ f) (hu : NoBit f u) (x : S29) (h0 : 0 ≤ x.f1) (h1 : x.f1 < 6) (hne : x.f1 ≠ f) : NoBit f (Go.bits .or .u64 u (bitOf x)) := by
  obtain ⟨n, rfl, hn, hb⟩ := hu
  have h2 : (2 : Nat) ^ x.f1.toNat < 64 := by
    have : x.f1.toNat = 0 ∨ x.f1.toNat = 1 ∨ x.f1.toNat = 2 ∨ x.f1.toNat = 3 ∨ x.f1.toNat = 4 ∨ x.f1.toNat = 5 := by omega
    rcases this with h | h | h | h | h | h <;> rw [h] <;> decide
  rw [bit_small x h0 h1, u64_or_nat _ _ (by omega) (by omega)]
  refine ⟨_, rfl, Nat.or_lt_two_pow (n := 6) hn h2, ?_⟩
  rw [Nat.testBit_or, hb, Nat.testBit_two_pow, decide_eq_false (by omega)]
  rfl

theorem halls_nobit (f : Int) (hf : 0 ≤ f) : ∀ (l : List S29) (u v : Int), (∀ x ∈ l, 0 ≤ x.f1 ∧ x.f1 < 6) → (∀ x ∈ l, x.f0 ≠ 3 → x.f1 ≠ f) → NoBit f u → NoBit f v → NoBit f (hallsOf l u v).1 ∧ NoBit f (hallsOf l u v).2
  | [], _, _, _, _, hu, hv => ⟨hu, hv⟩
  | x :: r, u, v, h1, h2, hu, hv => by
    have g1 := fun y hy => h1 y (List.mem_cons_of_mem _ hy)
    have g2 := fun y hy => h2 y (List.mem_cons_of_mem _ hy)
    obtain ⟨x0, x1⟩ := h1 x List.mem_cons_self
    have hx := h2 x List.mem_cons_self
    rw [hallsOf]
    split
    · exact halls_nobit f hf r _ _ g1 g2 (nobit_or hf hu x x0 x1 (hx (by omega))) hv
    · split
      · exact halls_nobit f hf r _ _ g1 g2 hu (nobit_or hf hv x x0 x1 (hx (by omega)))
      · exact halls_nobit f hf r _ _ g1 g2 hu hv

theorem no_bit_last {f u v : Int} (hf : 0 ≤ f) (hf' : f < 6) (hu : NoBit f u) (hv : NoBit f v) : (Int.tmod (shr .u64 (Go.bits .or .u64 u v) (IntKind.u64.wrap f)) 2 == 1) = false := by
  obtain ⟨n, rfl, hn, hb⟩ := hu
  obtain ⟨m, rfl, hm, hc⟩ := hv
  rw [u64_or_nat _ _ (by omega) (by omega)]
  have h : (n ||| m).testBit f.toNat = false := by rw [Nat.testBit_or, hb, hc]; rfl
  have hw : IntKind.u64.wrap f = f := by
    have : f = 0 ∨ f = 1 ∨ f = 2 ∨ f = 3 ∨ f = 4 ∨ f = 5 := by omega
    rcases this with h | h | h | h | h | h <;> rw [h] <;> first | rfl | decide
  rw [Nat.testBit_eq_decide_div_mod_eq, decide_eq_false_iff_not] at h
  have hmin : min f.toNat 64 = f.toNat := by omega
  have e : shr .u64 ((n ||| m : Nat) : Int) (IntKind.u64.wrap f) = (((n ||| m) / 2 ^ f.toNat : Nat) : Int) := by
    unfold shr
    rw [hw, show IntKind.u64.bits = 64 from rfl, hmin]
    simp
  rw [e, beq_eq_false_iff_ne]
  clear e hmin hw
  generalize (n ||| m) / 2 ^ f.toNat = q at h
  rw [tmod_pos (by omega)]
  omega

/-! ### one list in another -/
theorem in_law (p : S29 → Bool) (l A : List S29) (hA : A = l.filter p) (hl : l.length ≤ 64) : ∀ (d j i k : Nat), j + d = l.length → A.drop i = (l.drop j).filter p → i ≤ A.length → 2 * d + 2 ≤ k → L21_in.l0 k A l i j = some true
  | 0, j, i, k, h, hi, hle, hk => by
    obtain ⟨k, rfl⟩ : ∃ z, k = z + 2 := ⟨k - 2, by omega⟩
    rw [List.drop_eq_nil_of_le (show l.length ≤ j by omega), List.filter_nil, List.drop_eq_nil_iff] at hi
    rw [L21_in.l0, if_neg (by omega), L21_in.j1, if_neg (by decide)]
    congr 1
    rw [beq_iff_eq]
    omega
  | d + 1, j, i, k, h, hi, hle, hk => by
    obtain ⟨k, rfl⟩ : ∃ z, k = z + 2 := ⟨k - 2, by omega⟩
    have hj : j < l.length := by omega
    have hA64 : A.length ≤ 64 := by have := List.length_filter_le p l; rw [← hA] at this; omega
    have hlt : (j : Int) < (l.length : Int) := by omega
    have h0 : (0 : Int) ≤ (j : Int) := by omega
    have i0 : (0 : Int) ≤ (i : Int) := by omega
    have ihs := fun i' (q : A.drop i' = (l.drop (j + 1)).filter p) (q' : i' ≤ A.length) => in_law p l A hA hl d (j + 1) i' k (by omega) q q' (by omega)
    have ew : wrap64 ((j : Int) + 1) = ((j + 1 : Nat) : Int) := by rw [wrap_id (by omega) (by omega)]; omega
    have ei : wrap64 ((i : Int) + 1) = ((i + 1 : Nat) : Int) := by rw [wrap_id (by omega) (by omega)]; omega
    rw [L21_in.l0, if_pos hlt, L21_in.j1]
    rw [List.drop_eq_getElem_cons hj] at hi
    by_cases hie : i < A.length
    · have hie' : (i : Int) < (A.length : Int) := by clear ew ei; omega
      rw [if_pos (decide_eq_true hie'), if_pos h0, if_pos hlt, if_pos i0, if_pos hie', rd_k l j hj, rd_k A i hie, ew, ei]
      rw [List.drop_eq_getElem_cons hie] at hi
      by_cases hp : p l[j] = true
      · rw [List.filter_cons_of_pos hp, List.cons.injEq] at hi
        rw [hi.1, if_pos (by simp)]
        exact ihs (i + 1) hi.2 hie
      · rw [List.filter_cons_of_neg hp] at hi
        have hpi : p A[i] = true := by
          have : A[i] ∈ l.filter p := by rw [← hA]; exact List.getElem_mem _
          exact (List.mem_filter.1 this).2
        have hne : ¬ (l[j].f0 == A[i].f0 && (l[j].f1 == A[i].f1 && (l[j].f2 == A[i].f2 && (l[j].f3 == A[i].f3)))) = true := by
          intro e
          simp only [Bool.and_eq_true, beq_iff_eq] at e
          have : l[j] = A[i] := by
            cases hx : l[j]; cases hy : A[i]; rw [hx, hy] at e; simp only at e
            obtain ⟨rfl, rfl, rfl, rfl⟩ := e; rfl
          rw [this] at hp
          exact hp hpi
        rw [if_neg hne]
        exact ihs i (by rw [List.drop_eq_getElem_cons hie]; exact hi) (by clear ew ei; omega)
    · have hie' : ¬ (i : Int) < (A.length : Int) := by clear ew ei; omega
      rw [if_neg (by simpa using hie')]
      congr 1
      rw [beq_iff_eq]
      clear ew ei
      omega

theorem in_filter {k : Nat} (hk : 140 ≤ k) (p : S29 → Bool) (l : List S29) (hl : l.length ≤ 64) : L21_in.f k (l.filter p) l = some true := by
  unfold L21_in.f
  exact in_law p l _ rfl hl l.length 0 0 k (by omega) rfl (by omega) (by omega)

theorem filter_sum (p : S29 → Bool) : ∀ l : List S29, (l.filter (fun x => !p x)).length + (l.filter p).length = l.length
  | [] => rfl
  | x :: r => by
    have := filter_sum p r
    by_cases h : p x = true
    · rw [List.filter_cons_of_neg (by simp [h]), List.filter_cons_of_pos h, List.length_cons, List.length_cons]; omega
    · rw [List.filter_cons_of_pos (by simpa using h), List.filter_cons_of_neg h, List.length_cons, List.length_cons]; omega

theorem bound_law {n : Nat} {k : Nat} (h : n ≤ 32) (hk : 200 ≤ k) : n < 4611686018427387904 ∧ n + 1 ≤ k := by omega
theorem sum_law {n m q : Nat} (h : n + m = q) (hq : q ≤ 32) : wrap64 ((n : Int) + (m : Int)) = (q : Int) := by rw [wrap_id (by omega) (by omega)]; omega

theorem fin_end {k : Nat} (hk : 200 ≤ k) (f : Int) (a : Int) (l : List S29) (hV : ValidT a l) (m : List S29) : L21_TableKeeps.l0 (k + 1) f m (m.length : Int) a l = some true := by
  have hlen := hV.len; have hhi := hV.hi
  have hl32 : l.length ≤ 32 := by omega
  have hVx := valid_filter hV (fun x => x.f0 != 3)
  rw [L21_TableKeeps.l0, if_neg (by omega), wipe_valid hV]
  simp only [Option.bind_some]
  rw [wipe_valid hVx, halls_valid (by omega) hV]
  simp only [Option.bind_some]
  rw [halls_valid (by omega) hVx]
  have e1 : (l.filter (fun x => x.f0 != 3)).filter (fun x => x.f0 != 3) = l.filter (fun x => x.f0 != 3) := by rw [List.filter_filter]; simp only [Bool.and_self]
  have e2 : (l.filter (fun x => x.f0 != 3)).filter (fun x => !(x.f0 != 3)) = [] := by
    rw [List.filter_filter, List.filter_eq_nil_iff]
    intro x _
    simp
  have hs := filter_sum (fun x : S29 => !(x.f0 != 3)) l
  simp only [Bool.not_not] at hs
  have hin := in_filter (k := k) (by omega) (fun x : S29 => x.f0 != 3) l (by omega)
  have b1 : (l.filter (fun x : S29 => x.f0 != 3)).length ≤ 32 := Nat.le_trans (List.length_filter_le _ _) hl32
  obtain ⟨q1, q2⟩ := bound_law b1 hk
  have hst := same_table a (l.filter (fun x : S29 => x.f0 != 3)) q1 q2
  have hsum := sum_law hs hl32
  have haw := awakeK (k := k) (by omega)
  simp only [Option.bind_some, if_true, e1, e2, List.length_nil, Int.natCast_zero, hst, hin, halls_filter, hsum, haw]

theorem fin0 {k0 : Nat} (hk0 : 200 ≤ k0) (f : Int) (a : Int) (l : List S29) (hV : ValidT a l) (m : List S29) (hm : m.length ≤ 64) (hf : ∀ x ∈ m, x.f1 ≠ f) : ∀ (d j k : Nat), j + d = m.length → k = k0 + d → L21_TableKeeps.l0 (k + 1) f m (j : Int) a l = some true := by
  intro d
  induction d with
  | zero =>
    intro j k h hk
    obtain rfl : j = m.length := by omega
    exact fin_end (by omega) f a l hV m
  | succ d ih =>
    intro j k h hk
    obtain ⟨k, rfl⟩ : ∃ z, k = z + 1 := ⟨k - 1, by omega⟩
    have hj : j < m.length := by omega
    have hne := hf m[j] (List.getElem_mem _)
    have hlt : (j : Int) < (m.length : Int) := by omega
    have h0 : (0 : Int) ≤ (j : Int) := by omega
    have ih' := ih (j + 1) k (by omega) (by omega)
    have ew : wrap64 ((j : Int) + 1) = ((j + 1 : Nat) : Int) := by rw [wrap_id (by omega) (by omega)]; omega
    rw [L21_TableKeeps.l0, if_pos hlt, if_pos h0, rd_k m j hj, if_neg hne, ew]
    exact ih'

theorem TableKeeps : L21_TableKeeps.Pure := by
  intro a0 l1 a2 a3 _ _ _ _ _ _
  obtain ⟨K, hK⟩ : ∃ K : Nat, 1000 ≤ K := ⟨1000, Nat.le_refl _⟩
  refine ⟨K, ?_⟩
  obtain ⟨a, l, T, h1, h2, hT⟩ := made_law (k := K) (by omega) a0 l1
  obtain ⟨f, hf, f0, f1⟩ := mod_law a2 6 (by omega) (by omega)
  obtain ⟨g, hg, g0, g1⟩ := mod_law a3 3 (by omega) (by omega)
  have hV := h2.valid
  have hlen := hV.len; have hhi := hV.hi
  unfold L21_TableKeeps.f
  rw [h1, hf, hg]
  simp only [Option.bind_some]
  rw [wrap_id (x := 1 + g) (by omega) (by omega)]
  obtain ⟨c, hc⟩ : ∃ c, c = 1 + g := ⟨_, rfl⟩
  rw [← hc]
  have c0 : 1 ≤ c := by omega
  have c1 : c ≤ 3 := by omega
  have hVa := valid_filter hV (fun x => !servedK f c x)
  rw [serve_valid hV f c f0 f1 c0 c1]
  simp only [Option.bind_some]
  rw [serve_valid hVa f c f0 f1 c0 c1]
  have e1 : (l.filter (fun x => !servedK f c x)).filter (fun x => !servedK f c x) = l.filter (fun x => !servedK f c x) := by rw [List.filter_filter]; simp only [Bool.and_self]
  have e2 : (l.filter (fun x => !servedK f c x)).filter (servedK f c) = [] := by
    rw [List.filter_filter, List.filter_eq_nil_iff]
    intro x _
    simp
  have hs := filter_sum (servedK f c) l
  have hmem : ∀ x ∈ l.filter (fun x => !servedK f c x), (0 ≤ x.f1 ∧ x.f1 < 6) ∧ servedK f c x = false := fun x hx => by
    obtain ⟨q1, q2⟩ := List.mem_filter.1 hx
    have := h2.low x q1
    exact ⟨⟨this.1, this.2.1⟩, by simpa using q2⟩
  simp only [Option.bind_some, if_true, e1, e2, List.length_nil, Int.natCast_zero]
  rw [same_table _ _ (by omega) (by omega)]
  simp only [Option.bind_some, if_true]
  rw [in_filter (by omega) _ l (by omega)]
  simp only [Option.bind_some, if_true]
  rw [in_filter (by omega) _ l (by omega)]
  simp only [Option.bind_some, if_true]
  rw [wrap_id (by omega) (by omega)]
  have e3 : (((l.filter (fun x => !servedK f c x)).length : Int) + ((l.filter (servedK f c)).length : Int) != (l.length : Int)) = false := by
    rw [bne_eq_false_iff_eq]
    omega
  rw [e3]
  have hA64 : (l.filter (fun x => !servedK f c x)).length ≤ 64 := by omega
  clear e1 e2 hs e3
  generalize l.filter (fun x => !servedK f c x) = A at hVa hmem hA64
  obtain ⟨K, rfl⟩ : ∃ z, K = z + 2 := ⟨K - 2, by omega⟩
  rw [L21_TableKeeps.j0, if_neg (by decide), halls_valid (by omega) hVa, of_valid hVa c c0 c1]
  simp only [Option.bind_some, if_true]
  have hno : NoBit f 0 := ⟨0, rfl, by decide, by simp⟩
  obtain ⟨n1, n2⟩ := halls_nobit f f0 A 0 0 (fun x hx => (hmem x hx).1) (fun x hx h3 e => by
    have := (hmem x hx).2
    unfold servedK at this
    rw [beq_iff_eq.mpr e, show (x.f0 != 3) = true by simpa using h3] at this
    simp at this) hno hno
  rw [if_pos (u64_nonneg f), no_bit_last f0 f1 n1 n2, L21_TableKeeps.j1, if_neg (by decide)]
  have hb := List.length_filter_le (fun x : S29 => x.f2 == c) A
  have hfm : ∀ x ∈ A.filter (fun x : S29 => x.f2 == c), x.f1 ≠ f := fun x hx e => by
    obtain ⟨q1, q2⟩ := List.mem_filter.1 hx
    have := (hmem x q1).2
    unfold servedK at this
    rw [beq_iff_eq.mpr e, show (x.f2 == c) = true from q2] at this
    simp at this
  have hm64 : (A.filter (fun x : S29 => x.f2 == c)).length ≤ 64 := by omega
  clear n1 n2 hmem
  generalize A.filter (fun x : S29 => x.f2 == c) = m at hfm hm64
  obtain ⟨K, rfl⟩ : ∃ z, K = (z + m.length) + 1 := ⟨K - m.length - 1, by omega⟩
  exact fin0 (k0 := K) (by omega) f a l hV m hm64 hfm m.length 0 (K + m.length) (by omega) rfl

end Go.Proofs.Ytmfbpkjhabdcgaa.Pure
end
section
/- The statement TableKeeps holds: the law's function answers true at every input, and the input reads as it did. No condition. (Written by fork.py over the kit's print.) -/
namespace Go.Proofs.Ytmfbpkjhabdcgaa.tableKeeps
open Go.ChangeShapes Go.WideShapes Go.ChangeAt Go.RowKit
open Go.ChangeMaps (open_string shut_string)
set_option linter.unusedVariables false
theorem own : ownKnob Try.prog.godebug = none := by kernel_rfl
theorem laidOut : laidOutB Try.prog = true := by kernel_rfl
def IsRow (k : IntKind) (w : World) (a : Option Addr) (len cap : Nat) (zs : List Int) : Prop :=
  (a = none ∧ len = 0 ∧ cap = 0 ∧ zs = []) ∨
  ∃ x, a = some x ∧ len ≤ cap ∧ cap ≤ maxLen ∧ zs.length = cap ∧ (∀ i, i < zs.length → w.cell? (x.add i) = some (.int k (zs.getD i 0))) ∧ ∀ n ∈ zs, (Lit.int k n).wf = true
set_option maxRecDepth 100000 in
theorem lifted (os : Os) (started : os.Started) (H : Type) (enc : TypeId × Value → H) :
    ReturnsInHanded {} Try.checked os 7 .any (Rows.tableKeepsSpec.pre6 enc Try.prog Try.f7 Rows.tableKeepsRow.domain false) (Rows.tableKeepsSpec.post enc Try.prog Try.f7 false true false false) := by
  refine returnsInHanded_of_change_sized (C := Try.checked) own started (by kernel_rfl) Try.func7
    (ChangeSpec.witness6 (enc := enc) (C := Try.checked) false ⟨#[], #[.int .i64 0, .slice none 0 0, .int .i64 0, .int .i64 0], []⟩ 8 (by kernel_rfl) (by kernel_rfl) (by kernel_rfl) (by kernel_rfl)) ?_
  intro W base args ds gs before hval0 hW hcnd hsz0 _
  have hsz : (DataW.weightsEach Try.prog (Try.f7.params.toList ++ Rows.tableKeepsSpec.plain.varTypes Try.prog) (ds ++ gs)).all (· ≤ reachBytes) = true := hsz0
  have hval : ∀ (j : Nat) t v, Try.f7.params[j]? = some t → args[j]? = some v → Value.okWide Try.prog W .any base t v := hval0
  have hW' := hW
  obtain ⟨p, q, hA0, hV, rfl, hfz, hnd⟩ := hW
  have hA : DataW.TrodAll enc Try.prog W 0 (fun _ => true) true Try.f7.params.toList args.toList ds p := hA0
  rw [Try.params7] at hA hval hsz
  obtain ⟨v0, vs0, d0, ds0, p0, q0, hargs, rfl, rfl, h0, r0⟩ := trodAll_cons hA
  obtain ⟨v1, vs1, d1, ds1, p1, q1, rfl, rfl, rfl, h1, r1⟩ := trodAll_cons r0
  obtain ⟨v2, vs2, d2, ds2, p2, q2, rfl, rfl, rfl, h2, r2⟩ := trodAll_cons r1
  obtain ⟨v3, vs3, d3, ds3, p3, q3, rfl, rfl, rfl, h3, r3⟩ := trodAll_cons r2
  obtain ⟨rfl, rfl, rfl⟩ := trodAll_nil r3
  obtain rfl : args = #[v0, v1, v2, v3] := by cases args; simp_all
  obtain ⟨rfl, rfl⟩ := trodVars_none hV
  obtain ⟨a0, rfl, rfl, rfl, w0⟩ := open_int Try.underlying3 (hval 0 3 v0 rfl rfl) h0
  obtain ⟨a1, len1, cap1, rfl⟩ := okWide_slice Try.underlying22 (hval 1 22 v1 rfl rfl)
  have k1 := h1
  have lt1 : ∀ x ∈ p1, x.block < W.heap.size := by obtain ⟨m, hm⟩ := k1; exact DataW.trod_lt m _ _ _ hm
  obtain ⟨z1, w1⟩ : ∃ zs, IsRow .i64 W a1 len1 cap1 zs := by
    obtain ⟨fuel, hf⟩ := h1
    rcases open_ints Try.underlying22 Try.underlying3 (by kernel_rfl) hf with ⟨hcs, _⟩ | ⟨x, l, c, zs, hcs, _, hl, hm, hz, _, hcell, hwz⟩
    · simp [Value.cells] at hcs
      obtain ⟨rfl, rfl, rfl⟩ := hcs
      exact ⟨[], .inl ⟨rfl, rfl, rfl, rfl⟩⟩
    · simp [Value.cells] at hcs
      obtain ⟨rfl, rfl, rfl⟩ := hcs
      exact ⟨zs, .inr ⟨_, rfl, hl, hm, by simpa using hz, hcell, hwz⟩⟩
  have y1 : len1 * 8 ≤ 140737488351232 := Go.Proofs.YtmfbpkjhabdcgaaW.PrintWords.sized_ints hsz (j := 1) (t := 22) rfl rfl Try.underlying22 Try.underlying3 (by kernel_rfl) (by kernel_rfl) h1
  obtain ⟨a2, rfl, rfl, rfl, w2⟩ := open_int Try.underlying3 (hval 2 3 v2 rfl rfl) h2
  obtain ⟨a3, rfl, rfl, rfl, w3⟩ := open_int Try.underlying3 (hval 3 3 v3 rfl rfl) h3
  clear hA0 hval0 hsz0 hsz
  refine (F.L21_TableKeeps.walk Pure.TableKeeps a0 a1 len1 cap1 z1 a2 a3 W w0 w1 y1 w2 w3).mono fun e W' ⟨he, bel⟩ => ?_
  subst he
  exact ⟨_, rfl, _, _, _, [], _, [], hW', trodAll_mk1 (shut_bool Try.underlying4 _), (trodAll_cons_mk (shut_int Try.underlying3 w0) (trodAll_cons_mk (Below.trod laidOut (by kernel_rfl) (of_decide_eq_true (by kernel_rfl)) k1 bel lt1) (trodAll_cons_mk (shut_int Try.underlying3 w2) (trodAll_cons_mk (shut_int Try.underlying3 w3) trodAll_mk0)))), rfl, bel.frame _, fun h => by cases h⟩
theorem over : Rows.tableKeepsRow.holds Try.pinned (OpenSpec.ofChange Rows.tableKeepsSpec) :=
  OpenClaim.holds_of_wide 7 Try.f7 rfl rfl rfl rfl rfl rfl rfl ⟨rfl, rfl, rfl, rfl, rfl⟩ rfl rfl rfl rfl rfl (by kernel_rfl) Try.func7 (by show joinedFacts Try.prog 7 Try.f7 Rows.tableKeepsSpec Rows.tableKeepsRow = true; unfold joinedFacts; rw [may_enter, lifts_not, make_cut]; kernel_rfl)
    (of_decide_eq_true (by kernel_rfl)) (by unfold Func.isWrapper; first | (rw [if_pos (by decide +kernel)]; kernel_rfl) | (rw [if_neg (by decide +kernel)]; exact ⟨rfl, rfl⟩))
    (fun os started H enc _ => lifted os started H enc)
theorem proved : Rows.TableKeepsSaid := over
#print axioms proved
end Go.Proofs.Ytmfbpkjhabdcgaa.tableKeeps
namespace Go.Proofs.Ytmfbpkjhabdcgaa
/-- The row, under a short name, for the claim. -/
theorem tableKeeps_holds : Rows.TableKeepsSaid := tableKeeps.proved
end Go.Proofs.Ytmfbpkjhabdcgaa
end

/- key.stretches: the maker of the iterator, and the iterator's contract (it has blocks of its own). -/
import Derived.Test.YtlcghmfkgblheaaF2
import Derived.Test.YtlcghmfkgblheaaXMine
import Derived.RangeFuncNested
import Derived.RangeFuncBound
import Derived.RangeFuncCalls
import Derived.RangeFuncLeaves
import Derived.Shelf.Abstract
import Derived.Shelf.RegionOpen
import Derived.OwnWalkIn
import Derived.TacticsInMore
import Derived.LoopNIn
import Derived.LoopIn
namespace Go.Proofs.Ytlcghmfkgblheaa.F
open Go.RowKit Go.Shelf Go.Proofs.YtlcghmfkgblheaaW.PrintWords Go.Proofs.YtlcghmfkgblheaaW.PrintLast Go.Proofs.YtlcghmfkgblheaaW.PrintMore
attribute [local go_sem] Oper.semAt_some
set_option linter.unusedVariables false
set_option linter.unusedSimpArgs false

/-- What the iterator hands out: f, t: the stretch that is open (t = 0: none). -/
def strRun (keys : List Int) (life last : Int) : List S37 → Int → Int → List S39 → Option (List S39)
  | [], f, t, acc => if t > 0 then some (acc ++ [⟨f, t⟩]) else some acc
  | x :: r, f, t, acc => (key_knows.f 64 keys life last x.f1).bind fun b =>
    if b = true then (if t > 0 ∧ x.f0 > t then strRun keys life last r x.f0 (wrap64 (x.f0 + life)) (acc ++ [⟨f, t⟩])
      else strRun keys life last r (if t = 0 then x.f0 else f) (wrap64 (x.f0 + life)) acc)
    else strRun keys life last r f t acc

theorem after_alloc {W W' : World} {o : Obj} (h : Below (W.alloc o).heap.size (W.alloc o) W') : Below W.heap.size W W' :=
  ((Below.refl W.heap.size W).alloc (Nat.le_refl _) o).trans (h.mono (by simp))
theorem two_cells {W : World} {b : Nat} {u v : Value} {t : TypeId} (h : W.heap[b]? = some (.cells #[u, v] t (0, 0))) :
    W.cell? ⟨b, 0, none⟩ = some u ∧ W.cell? ⟨b, 1, none⟩ = some v ∧ W.frozen? ⟨b, 0, none⟩ = false ∧ W.frozen? ⟨b, 1, none⟩ = false := by
  simp [World.cell?, World.frozen?, h]

theorem strRun_step {keys : List Int} {life last : Int} {hist : List S37} {i : Nat} (f t : Int) (acc : List S39) (h : i < hist.length) :
    strRun keys life last (hist.drop i) f t acc = (key_knows.f 64 keys life last (rd_T37 hist i).f1).bind fun b =>
      if b = true then (if t > 0 ∧ (rd_T37 hist i).f0 > t then strRun keys life last (hist.drop (i + 1)) (rd_T37 hist i).f0 (wrap64 ((rd_T37 hist i).f0 + life)) (acc ++ [⟨f, t⟩])
        else strRun keys life last (hist.drop (i + 1)) (if t = 0 then (rd_T37 hist i).f0 else f) (wrap64 ((rd_T37 hist i).f0 + life)) acc)
      else strRun keys life last (hist.drop (i + 1)) f t acc := by
  have e : rd_T37 hist i = hist[i] := by simp [rd_T37, List.getD_eq_getElem?_getD, List.getElem?_eq_getElem h]
  rw [e, List.drop_eq_getElem_cons h, strRun]

set_option maxHeartbeats 4000000 in
set_option maxRecDepth 100000 in
/-- The iterator, at whatever the caller says of what has come (J), of which the caller knows which blocks are the iterator's (O). -/
theorem str1_in (n l hb kb : Nat) (A0 A1 : Option Addr) (c0 c1 : Nat) (keys : List Int) (life last : Int) (hist : List S37) (Wb W : World)
    (hhb : W.heap[hb]? = some (.cells #[.slice A1 hist.length c1] 29 (0, 0))) (hkb : W.heap[kb]? = some (.cells #[.slice A0 keys.length c0, .int .i64 life, .int .i64 last] 24 (0, 0)))
    (hk : Kd.C (Kd.int .i64) Wb A0 keys.length keys) (hkc : keys.length ≤ c0) (hh : Kd.C k37 Wb A1 hist.length hist) (hhc : hist.length ≤ c1) (hlen : hist.length ≤ 2000)
    (J : (Nat → Prop) → List S39 → World → Prop)
    (hJ1 : ∀ O O' pre A B, J O pre A → Below A.heap.size A B → (∀ k, O k → O' k) → (∀ k, O' k → O k ∨ (A.heap.size ≤ k ∧ k < B.heap.size)) → J O' pre B)
    (hJ2 : ∀ O pre A p u, J O pre A → O p.block → J O pre (A.setCell p u))
    (hY : ∀ O pre (x : S39) W1, J O pre W1 → pre.length ≤ hist.length → YieldAt Fence.wide (n - 1) Try.prog l #[.agg #[.int .i64 x.f0, .int .i64 x.f1]] W1 fun e W' =>
      e = .returned (.bool true) ∧ J O (pre ++ [x]) W' ∧ Below Wb.heap.size W1 W' ∧ W'.heap[kb]? = W1.heap[kb]? ∧ ∀ k, O k → W'.heap[k]? = W1.heap[k]?)
    (hW : Below Wb.heap.size Wb W) (h0 : J (fun _ => False) [] W) (res : List S39) (hres : strRun keys life last hist 0 0 [] = some res) :
    CallsIn Fence.wide n Try.prog 35 #[.func (.yield l) #[] #[], .pointer (some ⟨hb, 0, none⟩), .pointer (some ⟨kb, 0, none⟩)] W fun e W' =>
      (∃ v, e = .returned v) ∧ Below Wb.heap.size Wb W' ∧ ∃ O, J O res W' := by
  refine callsIn_of_wp Try.func35 rfl trivial ?_ rfl
  simp only [Try.ntmps35, List.size_toArray, List.length_cons, List.length_nil, Nat.reduceAdd, Nat.reduceSub, Array.replicate_succ, Array.replicate_zero, List.push_toArray, List.append_toArray, List.nil_append, List.cons_append]
  have hu24 := Try.underlying24
  have hu29 := Try.underlying29
  have hu37 := Try.underlying37
  have hu39 := Try.underlying39
  have hc1 : W.cell? ⟨hb, 0, none⟩ = some (.slice A1 hist.length c1) := (blk_cell hhb 0).trans rfl
  have hbl : hb < W.heap.size := blk_lt hhb
  gi_wp2
  have hs0 : strRun keys life last (hist.drop 0) 0 0 [] = some res := hres
  gi_loopw [10] (fun v wr => ∃ (i : Nat) (f t : Int) (acc : List S39) (O : Nat → Prop), v = .int .i64 i ∧ i ≤ hist.length ∧ acc.length ≤ i ∧ Aside0 (strRun keys life last (hist.drop i) f t acc = some res) ∧ Aside0 (J O acc wr) ∧ Aside0 (O W.heap.size) ∧ Aside0 (wr.heap[W.heap.size]? = some (.cells #[.int .i64 f, .int .i64 t] 39 (0, 0))) ∧ Aside0 (wr.heap[kb]? = some (.cells #[.slice A0 keys.length c0, .int .i64 life, .int .i64 last] 24 (0, 0))) ∧ Aside0 (Below Wb.heap.size Wb wr))
    (fun v _ => hist.length - (intOf v).toNat)
  case atStart =>
    refine ⟨0, 0, 0, [], fun k => k = W.heap.size, rfl, Nat.zero_le _, Nat.le_refl _, ⟨hs0⟩, ⟨hJ1 _ _ _ _ _ h0 ((Below.refl _ W).alloc (Nat.le_refl _) _) (fun _ h => h.elim) (fun k hk => .inr ⟨by omega, by simp; omega⟩)⟩, ⟨rfl⟩, ⟨World.alloc_heap_new W _⟩, ⟨(Below.heap_alloc W _ kb (blk_lt hkb)).trans hkb⟩, ⟨hW.trans ((Below.refl _ W).alloc hW.size _)⟩⟩
  case round =>
    obtain ⟨i, f, t, acc, O, rfl, hi, hal, HS, HJ, HO, HBK, HKB, HB⟩ := hrel
    have HW := Aside0.mk hW
    have HBW := Aside0.mk hbl
    clear hW hbl hc1 hs0 h0 hres
    have hsl := blk_lt HBK.out
    have hkb1 := Aside0.mk hkb
    clear hkb
    obtain ⟨hx0, hx1, hf0, hf1⟩ := two_cells HBK.out
    by_cases hlt : i < hist.length
    · have H := HS.out
      rw [strRun_step _ _ _ hlt] at H
      obtain ⟨b, hkn, H⟩ := Option.bind_eq_some_iff.mp H
      have HKN := Aside0.mk hkn
      clear hkn
      obtain ⟨ad, e, hy0, hy1⟩ := at_T37 hh i (by omega) (by omega)
      cases e
      replace hy0 := (HB.out.cell (World.block_lt_of_cell? Wb _ hy0)).trans hy0
      replace hy1 := (HB.out.cell (World.block_lt_of_cell? Wb _ hy1)).trans hy1
      simp only [Int.toNat_natCast] at hy0 hy1
      have hk0 : wr.cell? ⟨kb, 0, none⟩ = some (.slice A0 keys.length c0) := (blk_cell HKB.out 0).trans rfl
      have hk1 : wr.cell? ⟨kb, 1, none⟩ = some (.int .i64 life) := (blk_cell HKB.out 1).trans rfl
      have hk2 : wr.cell? ⟨kb, 2, none⟩ = some (.int .i64 last) := (blk_cell HKB.out 2).trans rfl
      have hkl : kb < wr.heap.size := blk_lt HKB.out
      have hbk := HB.out
      have hsb : Wb.heap.size ≤ W.heap.size := HW.out.size
      have hkne : kb ≠ W.heap.size := by have := blk_lt hkb1.out; omega
      have hkne' : W.heap.size ≠ kb := hkne.symm
      have hJJ := HJ.out
      have hOO := HO.out
      have hbs := HBK.out
      cases b with
      | false =>
        rw [if_neg (by decide)] at H
        have H' := Aside0.mk H
        clear H
        gi_wp2_with (refine ⟨trivial, fun hd => (by cases hd), ?_⟩; refine (callsIn_wide.2 (key_knows.calls 64 A0 c0 keys life last _ false _ ?hr hkc HKN.out)).mono ?_; (case hr => exact Kd.C_below hk (hbk.alloc (by omega) _)); rintro e w' ⟨rfl, hbw⟩; have HBW' := Aside0.mk hbw; clear hbw)
        have hb2 := (Below.refl wr.heap.size wr).alloc (Nat.le_refl _) (Obj.cells #[Value.int IntKind.i64 (rd_T37 hist ↑i).f0, Value.int IntKind.i64 (rd_T37 hist ↑i).f1] 37) |>.trans (HBW'.out.mono (by simp))
        refine ⟨⟨i + 1, f, t, acc, O, by simp, hlt, by omega, H', ⟨hJ1 _ _ _ _ _ hJJ hb2 (fun _ h => h) (fun _ h => .inl h)⟩, HO, ⟨(hb2.block _ hsl).trans hbs⟩, ⟨(hb2.block _ hkl).trans HKB.out⟩, ⟨hbk.trans (hb2.mono hbk.size)⟩⟩, ?_⟩
        simp [intOf]; omega
      | true =>
        rw [if_pos rfl] at H
        by_cases hc : t > 0 ∧ (rd_T37 hist ↑i).f0 > t
        · rw [if_pos hc] at H
          have H' := Aside0.mk H
          clear H
          obtain ⟨ht, htx⟩ := hc
          have hd1 : decide (0 < t) = true := decide_eq_true ht
          have hd2 : decide (t < (rd_T37 hist ↑i).f0) = true := decide_eq_true htx
          clear ht htx
          gi_wp2_with (refine ⟨trivial, fun hd => (by cases hd), ?_⟩; refine (callsIn_wide.2 (key_knows.calls 64 A0 c0 keys life last _ true _ ?hr hkc HKN.out)).mono ?_; (case hr => exact Kd.C_below hk (hbk.alloc (by omega) _)); rintro e w' ⟨rfl, hbw⟩; have HBW' := Aside0.mk hbw; have hz := HBW'.out.size; simp at hz; have hb2 := Aside0.mk (after_alloc HBW'.out); have hs2 := Aside0.mk ((hb2.out.block _ hsl).trans hbs); have hy2 := Aside0.mk ((HBW'.out.block wr.heap.size (by simp)).trans (World.alloc_heap_new wr _)); obtain ⟨q0, q1, q2, q3⟩ := two_cells hs2.out; obtain ⟨q4, q5, q6, q7⟩ := two_cells hy2.out; have q8 := (hb2.out.cell (p := ⟨kb, 1, none⟩) hkl).trans hk1; have hJ2' := hJ1 O (fun k => O k ∨ k = wr.heap.size) acc wr w' hJJ hb2.out (fun _ h => .inl h) (fun k h => h.elim .inl (fun h => .inr ⟨by omega, by omega⟩)); obtain ⟨fn, tmps, assign, body, hyy, hR⟩ := hY _ acc ⟨f, t⟩ w' hJ2' (by omega); dsimp only at hyy; clear hbw hJ2')
          refine ⟨fun hd => (by cases hd), hR.mono ?_⟩
          rintro e W3 ⟨rfl, hJ3, hB3, hK3, hO3⟩
          have hkb3 := Aside0.mk (hK3.trans ((hb2.out.block _ hkl).trans HKB.out))
          have hk3 := (blk_cell hkb3.out 1).trans rfl
          clear hK3
          have hs3 := Aside0.mk ((hO3 _ (.inl hOO)).trans hs2.out)
          have hy3 := Aside0.mk ((hO3 _ (.inr rfl)).trans hy2.out)
          obtain ⟨p0, p1, p2, p3⟩ := two_cells hs3.out
          obtain ⟨p4, p5, p6, p7⟩ := two_cells hy3.out
          have hne : W.heap.size ≠ wr.heap.size := by omega
          have hne' : wr.heap.size ≠ W.heap.size := by omega
          have HJ3 := Aside0.mk hJ3
          have HB3 := Aside0.mk hB3
          clear hJ3 hB3 hO3 hR hyy
          gi_wp2
          refine ⟨⟨i + 1, (rd_T37 hist ↑i).f0, wrap64 ((rd_T37 hist ↑i).f0 + life), acc ++ [⟨f, t⟩], _, by simp, hlt, by simp; omega, H', ⟨hJ2 _ _ _ _ _ (hJ2 _ _ _ _ _ (hJ2 _ _ _ _ _ HJ3.out (.inl hOO)) (.inl hOO)) (.inl hOO)⟩, ⟨.inl hOO⟩, ⟨blk_put (blk_put (blk_put hs3.out 1 _ rfl) 0 _ rfl) 1 _ rfl⟩, ⟨blk_far (blk_far (blk_far hkb3.out hkne _) hkne _) hkne _⟩, ⟨(((hbk.trans ((hb2.out.mono hbk.size).trans HB3.out)).setCell (p := ⟨W.heap.size, 1, none⟩) hsb _).setCell (p := ⟨W.heap.size, 0, none⟩) hsb _).setCell (p := ⟨W.heap.size, 1, none⟩) hsb _⟩⟩, ?_⟩
          simp [intOf]; omega
        · rw [if_neg hc] at H
          have H' := Aside0.mk H
          clear H
          have hne : W.heap.size ≠ wr.heap.size := by omega
          have hne' : wr.heap.size ≠ W.heap.size := by omega
          by_cases h0 : t = 0
          · subst h0
            have H1 := Aside0.mk (show strRun keys life last (List.drop (i + 1) hist) (rd_T37 hist ↑i).f0 (wrap64 ((rd_T37 hist ↑i).f0 + life)) acc = some res from H'.out)
            clear hc H'
            gi_wp2_with (refine ⟨trivial, fun hd => (by cases hd), ?_⟩; refine (callsIn_wide.2 (key_knows.calls 64 A0 c0 keys life last _ true _ ?hr hkc HKN.out)).mono ?_; (case hr => exact Kd.C_below hk (hbk.alloc (by omega) _)); rintro e w' ⟨rfl, hbw⟩; have HBW' := Aside0.mk hbw; have hz := HBW'.out.size; simp at hz; have hb2 := Aside0.mk (after_alloc HBW'.out); have hs2 := Aside0.mk ((hb2.out.block _ hsl).trans hbs); have hy2 := Aside0.mk ((HBW'.out.block wr.heap.size (by simp)).trans (World.alloc_heap_new wr _)); obtain ⟨q0, q1, q2, q3⟩ := two_cells hs2.out; obtain ⟨q4, q5, q6, q7⟩ := two_cells hy2.out; have q8 := (hb2.out.cell (p := ⟨kb, 1, none⟩) hkl).trans hk1; clear hbw)
            refine ⟨⟨i + 1, (rd_T37 hist ↑i).f0, wrap64 ((rd_T37 hist ↑i).f0 + life), acc, O, by simp, hlt, by omega, H1, ⟨hJ2 _ _ _ _ _ (hJ2 _ _ _ _ _ (hJ1 _ _ _ _ _ hJJ hb2.out (fun _ h => h) (fun _ h => .inl h)) hOO) hOO⟩, HO, ⟨blk_put (blk_put hs2.out 0 _ rfl) 1 _ rfl⟩, ⟨blk_far (blk_far ((hb2.out.block _ hkl).trans HKB.out) hkne _) hkne _⟩, ⟨((hbk.trans (hb2.out.mono hbk.size)).setCell (p := ⟨W.heap.size, 0, none⟩) hsb _).setCell (p := ⟨W.heap.size, 1, none⟩) hsb _⟩⟩, ?_⟩
            simp [intOf]; omega
          · rw [if_neg h0] at H'
            have hd3 : (t == 0) = false := beq_eq_false_iff_ne.mpr h0
            by_cases ht : t > 0
            · have hd1 : decide (0 < t) = true := decide_eq_true ht
              have hd2 : decide (t < (rd_T37 hist ↑i).f0) = false := decide_eq_false (fun h => hc ⟨ht, h⟩)
              clear hc ht h0
              gi_wp2_with (refine ⟨trivial, fun hd => (by cases hd), ?_⟩; refine (callsIn_wide.2 (key_knows.calls 64 A0 c0 keys life last _ true _ ?hr hkc HKN.out)).mono ?_; (case hr => exact Kd.C_below hk (hbk.alloc (by omega) _)); rintro e w' ⟨rfl, hbw⟩; have HBW' := Aside0.mk hbw; have hz := HBW'.out.size; simp at hz; have hb2 := Aside0.mk (after_alloc HBW'.out); have hs2 := Aside0.mk ((hb2.out.block _ hsl).trans hbs); have hy2 := Aside0.mk ((HBW'.out.block wr.heap.size (by simp)).trans (World.alloc_heap_new wr _)); obtain ⟨q0, q1, q2, q3⟩ := two_cells hs2.out; obtain ⟨q4, q5, q6, q7⟩ := two_cells hy2.out; have q8 := (hb2.out.cell (p := ⟨kb, 1, none⟩) hkl).trans hk1; clear hbw)
              refine ⟨⟨i + 1, f, wrap64 ((rd_T37 hist ↑i).f0 + life), acc, O, by simp, hlt, by omega, H', ⟨hJ2 _ _ _ _ _ (hJ1 _ _ _ _ _ hJJ hb2.out (fun _ h => h) (fun _ h => .inl h)) hOO⟩, HO, ⟨blk_put hs2.out 1 _ rfl⟩, ⟨blk_far ((hb2.out.block _ hkl).trans HKB.out) hkne _⟩, ⟨((hbk.trans (hb2.out.mono hbk.size))).setCell (p := ⟨W.heap.size, 1, none⟩) hsb _⟩⟩, ?_⟩
              simp [intOf]; omega
            · have hd1 : decide (0 < t) = false := decide_eq_false ht
              clear hc ht h0
              gi_wp2_with (refine ⟨trivial, fun hd => (by cases hd), ?_⟩; refine (callsIn_wide.2 (key_knows.calls 64 A0 c0 keys life last _ true _ ?hr hkc HKN.out)).mono ?_; (case hr => exact Kd.C_below hk (hbk.alloc (by omega) _)); rintro e w' ⟨rfl, hbw⟩; have HBW' := Aside0.mk hbw; have hz := HBW'.out.size; simp at hz; have hb2 := Aside0.mk (after_alloc HBW'.out); have hs2 := Aside0.mk ((hb2.out.block _ hsl).trans hbs); have hy2 := Aside0.mk ((HBW'.out.block wr.heap.size (by simp)).trans (World.alloc_heap_new wr _)); obtain ⟨q0, q1, q2, q3⟩ := two_cells hs2.out; obtain ⟨q4, q5, q6, q7⟩ := two_cells hy2.out; have q8 := (hb2.out.cell (p := ⟨kb, 1, none⟩) hkl).trans hk1; clear hbw)
              refine ⟨⟨i + 1, f, wrap64 ((rd_T37 hist ↑i).f0 + life), acc, O, by simp, hlt, by omega, H', ⟨hJ2 _ _ _ _ _ (hJ1 _ _ _ _ _ hJJ hb2.out (fun _ h => h) (fun _ h => .inl h)) hOO⟩, HO, ⟨blk_put hs2.out 1 _ rfl⟩, ⟨blk_far ((hb2.out.block _ hkl).trans HKB.out) hkne _⟩, ⟨((hbk.trans (hb2.out.mono hbk.size))).setCell (p := ⟨W.heap.size, 1, none⟩) hsb _⟩⟩, ?_⟩
              simp [intOf]; omega
    · obtain rfl : i = hist.length := by omega
      have H := HS.out
      rw [List.drop_length, strRun] at H
      by_cases ht : t > 0
      · rw [if_pos ht] at H
        obtain rfl := Option.some.inj H
        clear H
        have hd1 : decide (0 < t) = true := decide_eq_true ht
        clear ht
        obtain ⟨fn, tmps, assign, body, hyy, hR⟩ := hY _ acc ⟨f, t⟩ wr HJ.out hal
        dsimp only at hyy
        gi_wp2
        refine ⟨fun hd => (by cases hd), hR.mono ?_⟩
        rintro e W3 ⟨rfl, hJ3, hB3, hK3, hO3⟩
        have HJ3 := Aside0.mk hJ3
        have HB3 := Aside0.mk hB3
        clear hJ3 hB3 hO3 hR hyy
        gi_wp2
        go_end0
        exact ⟨⟨_, rfl⟩, HB.out.trans HB3.out, _, HJ3.out⟩
      · rw [if_neg ht] at H
        obtain rfl := Option.some.inj H
        clear H
        have hd1 : decide (0 < t) = false := decide_eq_false ht
        clear ht
        gi_wp2
        go_end0
        exact ⟨⟨_, rfl⟩, HB.out, _, HJ.out⟩

theorem str_iter (n hb kb : Nat) (A0 A1 : Option Addr) (c0 c1 : Nat) (keys : List Int) (life last : Int) (hist : List S37) (Wb W : World)
    (hhb : W.heap[hb]? = some (.cells #[.slice A1 hist.length c1] 29 (0, 0))) (hkb : W.heap[kb]? = some (.cells #[.slice A0 keys.length c0, .int .i64 life, .int .i64 last] 24 (0, 0)))
    (hk : Kd.C (Kd.int .i64) Wb A0 keys.length keys) (hkc : keys.length ≤ c0) (hh : Kd.C k37 Wb A1 hist.length hist) (hhc : hist.length ≤ c1) (hlen : hist.length ≤ 2000)
    (hW : Below Wb.heap.size Wb W) (res : List S39) (hres : strRun keys life last hist 0 0 [] = some res) :
    IterMine n Try.prog 35 #[.pointer (some ⟨hb, 0, none⟩), .pointer (some ⟨kb, 0, none⟩)] (fun x : S39 => .agg #[.int .i64 x.f0, .int .i64 x.f1]) (fun k => k < Wb.heap.size ∨ k = kb) hist.length res W := by
  intro l J hJ hY h0
  refine (str1_in n l hb kb A0 A1 c0 c1 keys life last hist Wb W hhb hkb hk hkc hh hhc hlen J (fun O O' pre A B h hb hup hnew => hJ O O' pre A B h (.of_below hb) hup hnew)
    (fun O pre A p u h hO => hJ O O pre A _ h ((Turned.setCell A p u).mono fun k e => e ▸ hO) (fun _ h => h) (fun _ h => .inl h)) (fun O pre x W1 hJ1 hlen1 => ?_) hW h0 res hres).mono (fun e W' h => ⟨h.1, h.2.2⟩)
  refine (hY O pre x W1 hJ1 hlen1).mono ?_
  rintro e W' ⟨he, hJ', ht, hz⟩
  have hk' : ∀ k, (k < Wb.heap.size ∨ k = kb) ∨ O k → W'.heap[k]? = W1.heap[k]? := fun k h => ht.block k (hz k h) (fun hn => hn h)
  exact ⟨he, hJ', ⟨ht.os, ht.tape, ht.output, ht.size, fun k h => hk' k (.inl (.inl h))⟩, hk' kb (.inl (.inr rfl)), fun k h => hk' k (.inr h)⟩

end Go.Proofs.Ytlcghmfkgblheaa.F

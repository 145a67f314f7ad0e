/- Part 7 of A28: what the functions reckon, step by step, and plain laws. No condition. -/
import Derived.Test.YtmfbpkjhabdcgaaKA28x6
section
namespace Go.Proofs.Ytmfbpkjhabdcgaa.F
open Go.RowKit Go.Proofs.YtmfbpkjhabdcgaaW.PrintWords Go.Proofs.YtmfbpkjhabdcgaaW.PrintLast Go.Proofs.YtmfbpkjhabdcgaaW.PrintMore
set_option linter.unusedVariables false
set_option linter.unusedSimpArgs false
theorem asks_valid {k : Nat} (hk : 20 ≤ k) {a : Int} {t : List S29} (hV : ValidT a t) {car mode trip now cycle load full floor home : Int} (hc : 1 ≤ car ∧ car ≤ 8) (hm : 0 ≤ mode ∧ mode ≤ 3) (ht : 0 ≤ trip ∧ trip ≤ 15) (hn : 0 ≤ now ∧ now ≤ 100) (hy : 1 ≤ cycle ∧ cycle ≤ 40) (hl : load = 0 ∧ full = 500) (hf : 0 ≤ floor ∧ floor ≤ 7) (hh : home = 2) {l : List S29} (h : Taken l) :
    pick_asks.f k a t car mode trip now cycle load full floor home l = some 0 := by
  unfold pick_asks.f pick_valid.f
  rw [check_valid hV]
  simp only [Option.bind_some, if_true]
  rw [ask_valid hk hc hm ht hn hy hl hf hh h]
  rfl
end Go.Proofs.Ytmfbpkjhabdcgaa.F
end
section
namespace Go.Proofs.Ytmfbpkjhabdcgaa.F
open Go.RowKit Go.Proofs.YtmfbpkjhabdcgaaW.PrintWords Go.Proofs.YtmfbpkjhabdcgaaW.PrintLast Go.Proofs.YtmfbpkjhabdcgaaW.PrintMore
set_option linter.unusedVariables false
set_option linter.unusedSimpArgs false
theorem ok_wfK {x : S29} (h : okC x) : wfK x = true := by
  unfold okC errC at h
  have hb : 1 ≤ x.f0 ∧ x.f0 ≤ 3 ∧ 0 ≤ x.f1 ∧ x.f1 < 64 ∧ 0 ≤ x.f2 ∧ x.f2 ≤ 8 := by
    split at h
    · cases h
    · split at h
      · cases h
      · split at h
        · cases h
        · omega
  unfold wfK
  simp only [Bool.and_eq_true]
  refine ⟨⟨?_, ?_⟩, ?_⟩ <;> simp [Lit.wf, IntKind.min, IntKind.max, IntKind.signed, IntKind.bits] <;> omega
end Go.Proofs.Ytmfbpkjhabdcgaa.F
end
section
namespace Go.Proofs.Ytmfbpkjhabdcgaa.F
open Go.RowKit Go.Proofs.YtmfbpkjhabdcgaaW.PrintWords Go.Proofs.YtmfbpkjhabdcgaaW.PrintLast Go.Proofs.YtmfbpkjhabdcgaaW.PrintMore
set_option linter.unusedVariables false
set_option linter.unusedSimpArgs false
theorem takenRun_ok : ∀ (l : List S29) (L : List (Int × Int × Int)), (∀ x ∈ l, okC x) → ∃ K, takenRun l L = some K ∧ ∀ q, q ∈ K ↔ q ∈ L ∨ ∃ x ∈ l, keyOf3 x = q
  | [], L, _ => ⟨L, rfl, fun q => by simp⟩
  | x :: r, L, h => by
    obtain ⟨K, h1, h2⟩ := takenRun_ok r ((x.f0, x.f1, x.f2) :: L) (fun y hy => h y (List.mem_cons_of_mem _ hy))
    refine ⟨K, by rw [takenRun, if_pos (ok_wfK (h x List.mem_cons_self))]; exact h1, fun q => ?_⟩
    rw [h2]
    constructor
    · rintro (hq | ⟨y, hy, e⟩)
      · rcases List.mem_cons.1 hq with rfl | hq
        · exact .inr ⟨x, List.mem_cons_self, rfl⟩
        · exact .inl hq
      · exact .inr ⟨y, List.mem_cons_of_mem _ hy, e⟩
    · rintro (hq | ⟨y, hy, e⟩)
      · exact .inl (List.mem_cons_of_mem _ hq)
      · rcases List.mem_cons.1 hy with rfl | hy
        · exact .inl (by rw [← e]; exact List.mem_cons_self)
        · exact .inr ⟨y, hy, e⟩
end Go.Proofs.Ytmfbpkjhabdcgaa.F
end
section
namespace Go.Proofs.Ytmfbpkjhabdcgaa.F
open Go.RowKit Go.Proofs.YtmfbpkjhabdcgaaW.PrintWords Go.Proofs.YtmfbpkjhabdcgaaW.PrintLast Go.Proofs.YtmfbpkjhabdcgaaW.PrintMore
set_option linter.unusedVariables false
set_option linter.unusedSimpArgs false
/-- What HALL is: an urgent hall call of the table; or one whose key is not taken; or nothing. -/
theorem hallRun_law (now cycle : Int) (K : List (Int × Int × Int)) : ∀ (l : List S29) (f : S29) (s : Bool), (∀ x ∈ l, okC x) →
    ∃ r b, hallRun now cycle K l f s = some (r, b) ∧ ((r, b) = (f, s) ∨ b = true ∧ r ∈ l ∧ r.f0 ≠ 3 ∧ (cycle ≤ wrap64 (now - r.f3) ∨ keyOf3 r ∉ K))
  | [], f, s, _ => ⟨f, s, rfl, .inl rfl⟩
  | x :: r, f, s, h => by
    have ih := fun f s => hallRun_law now cycle K r f s (fun y hy => h y (List.mem_cons_of_mem _ hy))
    have up : ∀ f s, (∃ r' b, hallRun now cycle K r f s = some (r', b) ∧ ((r', b) = (f, s) ∨ b = true ∧ r' ∈ r ∧ r'.f0 ≠ 3 ∧ (cycle ≤ wrap64 (now - r'.f3) ∨ keyOf3 r' ∉ K))) → ∃ r' b, hallRun now cycle K r f s = some (r', b) ∧ ((r', b) = (f, s) ∨ b = true ∧ r' ∈ x :: r ∧ r'.f0 ≠ 3 ∧ (cycle ≤ wrap64 (now - r'.f3) ∨ keyOf3 r' ∉ K)) := by
      rintro f s ⟨r', b, h1, h2⟩
      exact ⟨r', b, h1, h2.imp id (fun ⟨a1, a2, a3⟩ => ⟨a1, List.mem_cons_of_mem _ a2, a3⟩)⟩
    rw [hallRun]
    by_cases h3 : x.f0 = 3
    · rw [if_pos h3]; exact up f s (ih f s)
    · rw [if_neg h3]
      by_cases hu : cycle ≤ wrap64 (now - x.f3)
      · rw [if_pos hu]
        exact ⟨x, true, rfl, .inr ⟨rfl, List.mem_cons_self, h3, .inl hu⟩⟩
      · rw [if_neg hu, if_pos (ok_wfK (h x List.mem_cons_self))]
        by_cases hk : (x.f0, x.f1, x.f2) ∈ K
        · rw [if_pos hk]; exact up f s (ih f s)
        · rw [if_neg hk]
          by_cases hs : s = true
          · rw [if_pos hs]; exact up f s (ih f s)
          · rw [if_neg hs]
            obtain ⟨r', b, h1, h2⟩ := up x true (ih x true)
            refine ⟨r', b, h1, .inr ?_⟩
            rcases h2 with h2 | h2
            · obtain ⟨rfl, rfl⟩ := Prod.mk.inj h2
              exact ⟨rfl, List.mem_cons_self, h3, .inr hk⟩
            · exact h2
end Go.Proofs.Ytmfbpkjhabdcgaa.F
end
section
namespace Go.Proofs.Ytmfbpkjhabdcgaa.F
open Go.RowKit Go.Proofs.YtmfbpkjhabdcgaaW.PrintWords Go.Proofs.YtmfbpkjhabdcgaaW.PrintLast Go.Proofs.YtmfbpkjhabdcgaaW.PrintMore
set_option linter.unusedVariables false
set_option linter.unusedSimpArgs false
/-- OWN: a car call of the car in the table, or nothing. -/
theorem own_law (a : Int) (l : List S29) (car : Int) : ∃ x b, pick_byOwn.f a l car = some (x.f0, x.f1, x.f2, x.f3, b) ∧ (b = false ∧ x = ⟨0, 0, 0, 0⟩ ∨ b = true ∧ x ∈ l ∧ x.f0 = 3 ∧ x.f2 = car) := by
  unfold pick_byOwn.f
  by_cases h : idxOf (ownQ car) l < 0
  · rw [if_pos h]
    exact ⟨⟨0, 0, 0, 0⟩, false, rfl, .inl ⟨rfl, rfl⟩⟩
  · rw [if_neg h]
    refine ⟨rd_T29 l (idxOf (ownQ car) l), true, rfl, .inr ⟨rfl, ?_⟩⟩
    unfold idxOf at h ⊢
    split at h
    · rename_i hlt
      rw [if_pos hlt]
      have e : rd_T29 l ((l.findIdx (ownQ car) : Nat) : Int) = l[l.findIdx (ownQ car)] := by simp [rd_T29, List.getD_eq_getElem?_getD, List.getElem?_eq_getElem hlt]
      rw [e]
      have hq := List.findIdx_getElem (w := hlt)
      unfold ownQ at hq
      simp only [Bool.and_eq_true, Bool.not_eq_true', bne_eq_false_iff_eq, beq_iff_eq] at hq
      exact ⟨List.getElem_mem _, hq.1, hq.2⟩
    · exact absurd (show (-1 : Int) < 0 by decide) h
end Go.Proofs.Ytmfbpkjhabdcgaa.F
end
section
namespace Go.Proofs.Ytmfbpkjhabdcgaa.F
open Go.RowKit Go.Proofs.YtmfbpkjhabdcgaaW.PrintWords Go.Proofs.YtmfbpkjhabdcgaaW.PrintLast Go.Proofs.YtmfbpkjhabdcgaaW.PrintMore
set_option linter.unusedVariables false
set_option linter.unusedSimpArgs false
/-- What By answers in the mode Normal, in a trip with an even number. -/
theorem by_even {k : Nat} (hk : 20 ≤ k) {a : Int} {l : List S29} (hV : ValidT a l) {car trip now cycle floor : Int} (hc : 1 ≤ car ∧ car ≤ 8) (ht : 0 ≤ trip ∧ trip ≤ 15) (he : trip % 2 = 0) (hn : 0 ≤ now ∧ now ≤ 100) (hy : 1 ≤ cycle ∧ cycle ≤ 40) (hf : 0 ≤ floor ∧ floor ≤ 7) {Tk : List S29} (hT : Taken Tk) :
    ∃ K, (∀ q, q ∈ K ↔ ∃ x ∈ Tk, keyOf3 x = q) ∧ ∃ (h : S29) (hb : Bool) (r : S29) (b : Bool), hallRun now cycle K l ⟨0, 0, 0, 0⟩ false = some (h, hb) ∧ pick_By.f k a l car 0 trip now cycle 0 500 floor 2 Tk = some (r.f0, r.f1, r.f2, r.f3, b, 0) ∧
      (hb = true ∧ r = h ∧ b = true ∨ hb = false ∧ (b = false ∨ b = true ∧ r ∈ l ∧ r.f0 = 3 ∧ r.f2 = car)) := by
  obtain ⟨K, h1, h2⟩ := takenRun_ok Tk [] (fun x hx => (hT.2 x hx).1)
  obtain ⟨h, hb, h3, _⟩ := hallRun_law now cycle K l ⟨0, 0, 0, 0⟩ false hV.ok
  obtain ⟨o, ob, h4, h5⟩ := own_law a l car
  refine ⟨K, fun q => by rw [h2]; simp, h, hb, ?_⟩
  have eh : pick_byHall.f a l now cycle Tk = some (h.f0, h.f1, h.f2, h.f3, hb) := by
    unfold pick_byHall.f
    rw [h1]
    simp only [Option.bind_some]
    rw [h3]
    rfl
  have eb : pick_by.f a l car 0 trip now cycle 0 500 floor 2 Tk = waysRun (pick_byHall.f a l now cycle Tk) (pick_byOwn.f a l car) 0 := by
    unfold pick_by.f
    rw [if_neg (by decide), if_pos rfl, if_neg (by rw [tmod_pos ht.1]; omega)]
  unfold pick_By.f
  rw [asks_valid hk hV hc ⟨by decide, by decide⟩ ht hn hy ⟨rfl, rfl⟩ hf rfl hT]
  simp only [Option.bind_some, if_true]
  rw [eb, eh, h4, waysRun]
  simp only [Option.bind_some]
  cases hb with
  | true =>
    rw [if_pos rfl]
    exact ⟨h, true, h3, rfl, .inl ⟨rfl, rfl, rfl⟩⟩
  | false =>
    rw [if_neg (by decide)]
    cases ob with
    | true =>
      rw [if_pos rfl]
      rcases h5 with ⟨h5, _⟩ | ⟨_, h6, h7, h8⟩
      · cases h5
      · exact ⟨o, true, h3, rfl, .inr ⟨rfl, .inr ⟨rfl, h6, h7, h8⟩⟩⟩
    | false =>
      rw [if_neg (by decide)]
      exact ⟨⟨0, 0, 0, 0⟩, false, h3, rfl, .inr ⟨rfl, .inl rfl⟩⟩
end Go.Proofs.Ytmfbpkjhabdcgaa.F
end
section
namespace Go.Proofs.Ytmfbpkjhabdcgaa.F
open Go.RowKit Go.Proofs.YtmfbpkjhabdcgaaW.PrintWords Go.Proofs.YtmfbpkjhabdcgaaW.PrintLast Go.Proofs.YtmfbpkjhabdcgaaW.PrintMore
set_option linter.unusedVariables false
set_option linter.unusedSimpArgs false
theorem trip_even {trip : Int} (h : 0 ≤ trip ∧ trip ≤ 15) : wrap64 (wrap64 (Int.tdiv trip 2) * 2) = trip / 2 * 2 := by
  rw [Int.tdiv_eq_ediv_of_nonneg h.1, wrap_id (x := trip / 2) (by omega) (by omega), wrap_id (by omega) (by omega)]
end Go.Proofs.Ytmfbpkjhabdcgaa.F
end
section
namespace Go.Proofs.Ytmfbpkjhabdcgaa.F
open Go.RowKit Go.Proofs.YtmfbpkjhabdcgaaW.PrintWords Go.Proofs.YtmfbpkjhabdcgaaW.PrintLast Go.Proofs.YtmfbpkjhabdcgaaW.PrintMore
set_option linter.unusedVariables false
set_option linter.unusedSimpArgs false
theorem rd_p (l : List S29) (i : Nat) (h : i < l.length) : rd_T29 l (i : Int) = l[i] := by simp [rd_T29, List.getD_eq_getElem?_getD, List.getElem?_eq_getElem h]
end Go.Proofs.Ytmfbpkjhabdcgaa.F
end

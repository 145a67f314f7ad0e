/- Part 5 of LockTurns: what the functions reckon, step by step, and plain laws. No condition. -/
import Derived.Test.YtdkabbjknclifaaKLockTurnsx4
section
namespace Go.Proofs.Ytdkabbjknclifaa.F
open Go.RowKit Go.Proofs.YtdkabbjknclifaaW.PrintWords Go.Proofs.YtdkabbjknclifaaW.PrintLast Go.Proofs.YtdkabbjknclifaaW.PrintMore
set_option linter.unusedVariables false
set_option linter.unusedSimpArgs false
/-- Cells of type t that read as data hold a value of the kind d, which is well formed (Wf). -/
def Opens {α : Type} (P : Program) (t : TypeId) (d : Kd α) (Wf : α → Prop) : Prop :=
  P.cellsOf t = d.sz ∧ ∀ {H : Type} (enc : TypeId × Value → H) (w : World) (sp : Nat → Bool) (held : Bool) (fuel : Nat) (cs : List Value) (x : DataW H × List MemPlace),
    DataW.trod enc P w 0 sp held fuel t cs = some x → ∃ y : α, d.K w y cs ∧ Wf y
end Go.Proofs.Ytdkabbjknclifaa.F
end
section
namespace Go.Proofs.Ytdkabbjknclifaa.F
open Go.RowKit Go.Proofs.YtdkabbjknclifaaW.PrintWords Go.Proofs.YtdkabbjknclifaaW.PrintLast Go.Proofs.YtdkabbjknclifaaW.PrintMore
set_option linter.unusedVariables false
set_option linter.unusedSimpArgs false
theorem opens_bool {P : Program} {t : TypeId} (ht : P.underlying t = some .bool) (hc : P.cellsOf t = 1) : Opens P t Kd.bool (fun _ => True) := by
  refine ⟨hc, fun enc w sp held fuel cs x h => ?_⟩
  cases fuel with
  | zero => simp [DataW.trod] at h
  | succ n =>
    unfold DataW.trod at h
    rw [ht] at h
    split at h <;> first | exact ⟨_, rfl, trivial⟩ | simp_all
end Go.Proofs.Ytdkabbjknclifaa.F
end
section
namespace Go.Proofs.Ytdkabbjknclifaa.F
open Go.RowKit Go.Proofs.YtdkabbjknclifaaW.PrintWords Go.Proofs.YtdkabbjknclifaaW.PrintLast Go.Proofs.YtdkabbjknclifaaW.PrintMore
set_option linter.unusedVariables false
set_option linter.unusedSimpArgs false
theorem opens_slice {α : Type} {P : Program} {t e : TypeId} {d : Kd α} {Wf : α → Prop} (ht : P.underlying t = some (.slice e)) (hc : P.cellsOf t = 1) (hd : Opens P e d Wf) : Opens P t (Kd.slice e d) (fun l => ∀ y ∈ l, Wf y) := by
  refine ⟨hc, fun enc w sp held fuel cs x h => ?_⟩
  rcases DataW.trod_slice ht h with ⟨rfl, _⟩ | ⟨a, len, cap, elems, rest, n, rfl, rfl, _, _, hle, hcap, hel, he, _, _⟩
  · exact ⟨[], ⟨none, 0, rfl, Nat.le_refl _, rfl, by simp, fun h => by simp at h⟩, fun _ h => (List.not_mem_nil h).elim⟩
  · have hone : ∀ i : Fin len, ∃ y : α, (∃ c, c.length = d.sz ∧ d.K w y c ∧ ∀ j u, c[j]? = some u → w.cell? (a.add (i.1 * d.sz + j)) = some u) ∧ Wf y := by
      intro i
      have h1 := he i.1 i.2
      have h2 : i.1 < elems.length := by rw [hel]; exact i.2
      rw [List.getElem?_eq_getElem h2] at h1
      obtain ⟨c, hc1, hc2⟩ := Option.bind_eq_some_iff.mp h1
      obtain ⟨y, hy, hw⟩ := hd.2 enc w sp held n c _ hc2
      rw [hd.1] at hc1
      have h3 := World.cells?_some hc1
      refine ⟨y, ⟨c, d.K_len hy, hy, fun j u hu => ?_⟩, hw⟩
      have hj := (List.getElem?_eq_some_iff.1 hu).1
      have h4 := h3.2.2 j (by rw [← h3.2.1]; exact hj)
      rw [hu] at h4
      rw [Addr.add_add] at h4
      exact h4
    refine ⟨List.ofFn (fun i : Fin len => Classical.choose (hone i)), ⟨some a, cap, by simp, by simpa using hle, by simp, by simp only [maxLen] at hcap; simp; omega, fun _ => ⟨a, rfl, fun j p hp => ?_⟩⟩, fun y hy => ?_⟩
    · obtain ⟨hj, e⟩ := List.getElem?_eq_some_iff.1 hp
      rw [List.getElem_ofFn] at e
      subst e
      exact (Classical.choose_spec (hone ⟨j, by simpa using hj⟩)).1
    · rw [List.mem_ofFn] at hy
      obtain ⟨i, rfl⟩ := hy
      exact (Classical.choose_spec (hone i)).2
end Go.Proofs.Ytdkabbjknclifaa.F
end
section
namespace Go.Proofs.Ytdkabbjknclifaa.F
open Go.RowKit Go.Proofs.YtdkabbjknclifaaW.PrintWords Go.Proofs.YtdkabbjknclifaaW.PrintLast Go.Proofs.YtdkabbjknclifaaW.PrintMore
set_option linter.unusedVariables false
set_option linter.unusedSimpArgs false
/-- Fields from off on. -/
def OpensFs {α : Type} (P : Program) (fs : List Field) (off : Nat) (d : Kd α) (Wf : α → Prop) : Prop :=
  ∀ (H : Type) (enc : TypeId × Value → H) (w : World) (sp : Nat → Bool) (held : Bool) (fuel : Nat) (cs : List Value),
    (∀ f ∈ fs, ∃ x, DataW.trod enc P w 0 sp held fuel f.type ((cs.drop f.offset).take (P.cellsOf f.type)) = some x) → cs.length = off + d.sz → ∃ y : α, d.K w y (cs.drop off) ∧ Wf y
end Go.Proofs.Ytdkabbjknclifaa.F
end
section
namespace Go.Proofs.Ytdkabbjknclifaa.F
open Go.RowKit Go.Proofs.YtdkabbjknclifaaW.PrintWords Go.Proofs.YtdkabbjknclifaaW.PrintLast Go.Proofs.YtdkabbjknclifaaW.PrintMore
set_option linter.unusedVariables false
set_option linter.unusedSimpArgs false
theorem opensFs_one {α : Type} {P : Program} {f : Field} {off : Nat} {d : Kd α} {Wf : α → Prop} (ho : f.offset = off) (hd : Opens P f.type d Wf) : OpensFs P [f] off d Wf := by
  subst ho
  intro H enc w sp held fuel cs hf hl
  obtain ⟨x, hx⟩ := hf f List.mem_cons_self
  rw [List.take_of_length_le (by rw [List.length_drop, hd.1]; omega)] at hx
  exact hd.2 enc w sp held fuel _ x hx
end Go.Proofs.Ytdkabbjknclifaa.F
end
section
namespace Go.Proofs.Ytdkabbjknclifaa.F
open Go.RowKit Go.Proofs.YtdkabbjknclifaaW.PrintWords Go.Proofs.YtdkabbjknclifaaW.PrintLast Go.Proofs.YtdkabbjknclifaaW.PrintMore
set_option linter.unusedVariables false
set_option linter.unusedSimpArgs false
theorem opensFs_cons {α β : Type} {P : Program} {f : Field} {fs : List Field} {off : Nat} {d : Kd α} {d1 : Kd β} {W0 : α → Prop} {W1 : β → Prop} (ho : f.offset = off) (hd : Opens P f.type d W0) (hs : OpensFs P fs (off + d.sz) d1 W1) :
    OpensFs P (f :: fs) off (Kd.pair d d1) (fun y => W0 y.1 ∧ W1 y.2) := by
  subst ho
  intro H enc w sp held fuel cs hf hl
  obtain ⟨x, hx⟩ := hf f List.mem_cons_self
  rw [hd.1] at hx
  obtain ⟨y, hy, hw⟩ := hd.2 enc w sp held fuel _ x hx
  obtain ⟨z, hz, hw'⟩ := hs H enc w sp held fuel cs (fun g hg => hf g (List.mem_cons_of_mem _ hg)) (by rw [hl]; exact (Nat.add_assoc _ _ _).symm)
  refine ⟨(y, z), ⟨_, _, ?_, hy, hz⟩, hw, hw'⟩
  rw [← List.drop_drop]
  exact (List.take_append_drop d.sz _).symm
end Go.Proofs.Ytdkabbjknclifaa.F
end
section
namespace Go.Proofs.Ytdkabbjknclifaa.F
open Go.RowKit Go.Proofs.YtdkabbjknclifaaW.PrintWords Go.Proofs.YtdkabbjknclifaaW.PrintLast Go.Proofs.YtdkabbjknclifaaW.PrintMore
set_option linter.unusedVariables false
set_option linter.unusedSimpArgs false
theorem opens_struct {α β : Type} {P : Program} {t : TypeId} {fs : Array Field} {d : Kd α} {Wf : α → Prop} (f : β → α) (g : α → β) (hfg : ∀ y, f (g y) = y) (ht : P.underlying t = some (.struct fs)) (hc : P.cellsOf t = d.sz)
    (hs : OpensFs P fs.toList 0 d Wf) : Opens P t (Kd.iso d f) (fun x => Wf (f x)) := by
  refine ⟨hc, fun {H} enc w sp held fuel cs x h => ?_⟩
  obtain ⟨xs, n, rfl, _, hl, hxl, hx⟩ := DataW.trod_struct ht h
  have hq : ∀ q ∈ fs.toList, ∃ x, DataW.trod enc P w 0 sp held n q.type ((cs.drop q.offset).take (P.cellsOf q.type)) = some x := by
    intro q hq
    obtain ⟨i, hi, e⟩ := List.getElem_of_mem hq
    have hi' : i < fs.size := by simpa using hi
    have h1 := hx i q (by rw [Array.getElem?_eq_getElem hi']; exact congrArg some (by simpa using e))
    rw [List.getElem?_eq_getElem (by rw [hxl]; exact hi')] at h1
    exact ⟨_, h1⟩
  obtain ⟨y, hy, hw⟩ := hs H enc w sp held n cs hq (by rw [hl, hc, Nat.zero_add])
  refine ⟨g y, ?_, ?_⟩
  · show d.K w (f (g y)) cs
    rw [hfg]; exact hy
  · show Wf (f (g y))
    rw [hfg]; exact hw
end Go.Proofs.Ytdkabbjknclifaa.F
end
section
namespace Go.Proofs.Ytdkabbjknclifaa.F
open Go.RowKit Go.Proofs.YtdkabbjknclifaaW.PrintWords Go.Proofs.YtdkabbjknclifaaW.PrintLast Go.Proofs.YtdkabbjknclifaaW.PrintMore
set_option linter.unusedVariables false
set_option linter.unusedSimpArgs false
/-- A value that is one argument, opened. -/
theorem Opens.arg {α : Type} {P : Program} {t : TypeId} {d : Kd α} {Wf : α → Prop} (h : Opens P t d Wf) {H : Type} {enc : TypeId × Value → H} {w : World} {sp : Nat → Bool} {held : Bool} {v : Value} {D : DataW H} {ps : List MemPlace}
    (ht : DataW.Trod enc P w 0 sp held t v D ps) : ∃ y : α, d.K w y v.cells.toList ∧ Wf y := by
  obtain ⟨fuel, hf⟩ := ht
  exact h.2 enc w sp held fuel _ _ hf
end Go.Proofs.Ytdkabbjknclifaa.F
end
section
/- Written by fork.py: what the row of LockTurns tells of its arguments. -/
namespace Go.Proofs.Ytdkabbjknclifaa.lockTurns
open Go.RowKit
def Wf25 (x : F.S25) : Prop := True ∧ (∀ y ∈ x.f1, True)
/-- The plain law of LockTurns. -/
def Law : Prop := ∀ (y0 : F.S25) (y1 : Int) (y2 : Int), Wf25 y0 → (Lit.int .i64 y1).wf = true → (Lit.int .i64 y2).wf = true → ∃ k, F.L17_LockTurns.f k y0.f0 y0.f1 y1 y2 = some true
end Go.Proofs.Ytdkabbjknclifaa.lockTurns
end
section
namespace Go.Proofs.Ytdkabbjknclifaa.Pure
open Go.RowKit Go.Proofs.Ytdkabbjknclifaa.F Go.Proofs.YtdkabbjknclifaaW.PrintWords Go.Proofs.YtdkabbjknclifaaW.PrintLast
set_option linter.unusedVariables false
set_option linter.unusedSimpArgs false
theorem w64s {x : Int} (h0 : -100000 ≤ x) (h1 : x ≤ 100000) : wrap64 x = x := by unfold wrap64; omega
end Go.Proofs.Ytdkabbjknclifaa.Pure
end
section
namespace Go.Proofs.Ytdkabbjknclifaa.Pure
open Go.RowKit Go.Proofs.Ytdkabbjknclifaa.F Go.Proofs.YtdkabbjknclifaaW.PrintWords Go.Proofs.YtdkabbjknclifaaW.PrintLast
set_option linter.unusedVariables false
set_option linter.unusedSimpArgs false
theorem w64n {i : Nat} (h : i ≤ 90000) : wrap64 ((i : Int) + 1) = ((i + 1 : Nat) : Int) := by rw [w64s (by omega) (by omega)]; omega
end Go.Proofs.Ytdkabbjknclifaa.Pure
end
section
namespace Go.Proofs.Ytdkabbjknclifaa.Pure
open Go.RowKit Go.Proofs.Ytdkabbjknclifaa.F Go.Proofs.YtdkabbjknclifaaW.PrintWords Go.Proofs.YtdkabbjknclifaaW.PrintLast
set_option linter.unusedVariables false
set_option linter.unusedSimpArgs false
theorem rd_drop {α : Type} {d : α} {l : List α} {i : Nat} (h : i < l.length) : l.drop i = rdOf d l i :: l.drop (i + 1) := by
  have e : rdOf d l i = l[i] := by simp [rdOf, List.getD_eq_getElem?_getD, List.getElem?_eq_getElem h]
  rw [e, List.drop_eq_getElem_cons h]
end Go.Proofs.Ytdkabbjknclifaa.Pure
end
section
namespace Go.Proofs.Ytdkabbjknclifaa.Pure
open Go.RowKit Go.Proofs.Ytdkabbjknclifaa.F Go.Proofs.YtdkabbjknclifaaW.PrintWords Go.Proofs.YtdkabbjknclifaaW.PrintLast
set_option linter.unusedVariables false
set_option linter.unusedSimpArgs false
/-- The landings that are not locked. -/
def openFrom : Nat → List Bool → List Int
  | _, [] => []
  | i, x :: r => if x = true then openFrom (i + 1) r else (i : Int) :: openFrom (i + 1) r
end Go.Proofs.Ytdkabbjknclifaa.Pure
end
section
namespace Go.Proofs.Ytdkabbjknclifaa.Pure
open Go.RowKit Go.Proofs.Ytdkabbjknclifaa.F Go.Proofs.YtdkabbjknclifaaW.PrintWords Go.Proofs.YtdkabbjknclifaaW.PrintLast
set_option linter.unusedVariables false
set_option linter.unusedSimpArgs false
theorem openFrom_mem : ∀ (l : List Bool) (i : Nat) (x : Int), x ∈ openFrom i l → (i : Int) ≤ x ∧ x < (i : Int) + l.length
  | [], _, _, h => by simp [openFrom] at h
  | b :: r, i, x, h => by
    unfold openFrom at h
    have ih := openFrom_mem r (i + 1) x
    split at h
    · have := ih h; simp; omega
    · rcases List.mem_cons.mp h with rfl | h
      · simp; omega
      · have := ih h; simp; omega
end Go.Proofs.Ytdkabbjknclifaa.Pure
end
section
namespace Go.Proofs.Ytdkabbjknclifaa.Pure
open Go.RowKit Go.Proofs.Ytdkabbjknclifaa.F Go.Proofs.YtdkabbjknclifaaW.PrintWords Go.Proofs.YtdkabbjknclifaaW.PrintLast
set_option linter.unusedVariables false
set_option linter.unusedSimpArgs false
def fin (b : Bool) (n : Int) : Int := if n > 1 then 9 else if n = 1 then (if b = true then 9 else 0) else 0
end Go.Proofs.Ytdkabbjknclifaa.Pure
end
section
namespace Go.Proofs.Ytdkabbjknclifaa.Pure
open Go.RowKit Go.Proofs.Ytdkabbjknclifaa.F Go.Proofs.YtdkabbjknclifaaW.PrintWords Go.Proofs.YtdkabbjknclifaaW.PrintLast
set_option linter.unusedVariables false
set_option linter.unusedSimpArgs false
def chk (b : Bool) (l : List Bool) : Int := if l.length < 2 then 2 else if 64 < l.length then 2 else fin b (openFrom 0 l).length
end Go.Proofs.Ytdkabbjknclifaa.Pure
end
section
namespace Go.Proofs.Ytdkabbjknclifaa.Pure
open Go.RowKit Go.Proofs.Ytdkabbjknclifaa.F Go.Proofs.YtdkabbjknclifaaW.PrintWords Go.Proofs.YtdkabbjknclifaaW.PrintLast
set_option linter.unusedVariables false
set_option linter.unusedSimpArgs false
theorem check_l0 {l : List Bool} (hl : l.length ≤ 1000) (b : Bool) (l' : List Bool) : ∀ (d k i n : Nat), i + d = l.length → n ≤ i → d + 1 ≤ k →
    lock_Check.l0 k (n : Int) l (l.length : Int) (i : Int) b l' = some (fin b ((n : Int) + (openFrom i (l.drop i)).length))
  | 0, k, i, n, hi, hn, hk => by
    obtain ⟨k, rfl⟩ : ∃ j, k = j + 1 := ⟨k - 1, by omega⟩
    obtain rfl : i = l.length := by omega
    simp only [lock_Check.l0]
    rw [if_neg (by omega), List.drop_length]
    have e : (n : Int) + ((openFrom l.length ([] : List Bool)).length : Int) = n := by simp [openFrom]
    rw [e]
    unfold fin
    by_cases h1 : (n : Int) > 1
    · rw [if_pos h1, if_pos h1]
    · rw [if_neg h1, if_neg h1]
      by_cases h2 : (n : Int) = 1
      · rw [if_pos h2, if_pos h2]; split <;> rfl
      · rw [if_neg h2, if_neg h2]
  | d + 1, k, i, n, hi, hn, hk => by
    obtain ⟨k, rfl⟩ : ∃ j, k = j + 1 := ⟨k - 1, by omega⟩
    simp only [lock_Check.l0]
    rw [if_pos (by omega), if_pos (by omega), if_pos (by omega), rd_drop (d := false) (show i < l.length by omega), w64n (by omega)]
    by_cases h : rdOf false l (i : Int) = true
    · rw [if_pos h, check_l0 hl b l' d k (i + 1) n (by omega) (by omega) (by omega)]
      simp only [openFrom, if_pos h]
    · rw [if_neg h, w64n (by omega), check_l0 hl b l' d k (i + 1) (n + 1) (by omega) (by omega) (by omega)]
      simp only [openFrom, if_neg h, List.length_cons]
      congr 2
      omega
end Go.Proofs.Ytdkabbjknclifaa.Pure
end
section
namespace Go.Proofs.Ytdkabbjknclifaa.Pure
open Go.RowKit Go.Proofs.Ytdkabbjknclifaa.F Go.Proofs.YtdkabbjknclifaaW.PrintWords Go.Proofs.YtdkabbjknclifaaW.PrintLast
set_option linter.unusedVariables false
set_option linter.unusedSimpArgs false
theorem lock_check {l : List Bool} (hl : l.length ≤ 1000) (b : Bool) {k : Nat} (hk : l.length + 3 ≤ k) : lock_Check.f k b l = some (chk b l) := by
  obtain ⟨k, rfl⟩ : ∃ j, k = j + 1 := ⟨k - 1, by omega⟩
  unfold lock_Check.f chk
  by_cases h1 : l.length < 2
  · rw [if_pos (by omega), if_pos h1]; simp [lock_Check.j0]
  · rw [if_neg (by omega), if_neg h1]
    by_cases h2 : 64 < l.length
    · rw [if_pos h2]; simp only [lock_Check.j0]; rw [if_pos (decide_eq_true (by omega))]
    · rw [if_neg h2]
      simp only [lock_Check.j0]
      rw [if_neg (by simp; omega)]
      have := check_l0 hl b l l.length k 0 0 (by omega) (by omega) (by omega)
      simpa using this
end Go.Proofs.Ytdkabbjknclifaa.Pure
end
section
namespace Go.Proofs.Ytdkabbjknclifaa.Pure
open Go.RowKit Go.Proofs.Ytdkabbjknclifaa.F Go.Proofs.YtdkabbjknclifaaW.PrintWords Go.Proofs.YtdkabbjknclifaaW.PrintLast
set_option linter.unusedVariables false
set_option linter.unusedSimpArgs false
theorem open_l0 {l : List Bool} (hl : l.length ≤ 1000) (b : Bool) : ∀ (d k i : Nat) (acc : List Int), i + d = l.length → acc.length ≤ i → d + 1 ≤ k →
    R17_open.l0 k acc (i : Int) b l = some (acc ++ openFrom i (l.drop i))
  | 0, k, i, acc, hi, ha, hk => by
    obtain ⟨k, rfl⟩ : ∃ j, k = j + 1 := ⟨k - 1, by omega⟩
    obtain rfl : i = l.length := by omega
    simp only [R17_open.l0]
    rw [if_neg (by omega), List.drop_length]
    simp [openFrom]
  | d + 1, k, i, acc, hi, ha, hk => by
    obtain ⟨k, rfl⟩ : ∃ j, k = j + 1 := ⟨k - 1, by omega⟩
    simp only [R17_open.l0]
    rw [if_pos (by omega), if_pos (by omega), rd_drop (d := false) (show i < l.length by omega), w64n (by omega)]
    by_cases h : rdOf false l (i : Int) = true
    · rw [if_pos h, open_l0 hl b d k (i + 1) acc (by omega) (by omega) (by omega)]
      simp only [openFrom, if_pos h]
    · rw [if_neg h, if_pos (by omega), open_l0 hl b d k (i + 1) _ (by omega) (by simp; omega) (by omega)]
      simp only [openFrom, if_neg h, List.append_assoc, List.singleton_append]
end Go.Proofs.Ytdkabbjknclifaa.Pure
end
section
namespace Go.Proofs.Ytdkabbjknclifaa.Pure
open Go.RowKit Go.Proofs.Ytdkabbjknclifaa.F Go.Proofs.YtdkabbjknclifaaW.PrintWords Go.Proofs.YtdkabbjknclifaaW.PrintLast
set_option linter.unusedVariables false
set_option linter.unusedSimpArgs false
theorem ref_open {l : List Bool} (hl : l.length ≤ 1000) (b : Bool) {k : Nat} (hk : l.length + 1 ≤ k) : R17_open.f k b l = some (openFrom 0 l) := by
  unfold R17_open.f
  have := open_l0 hl b l.length k 0 [] (by omega) (by simp) hk
  simpa using this
end Go.Proofs.Ytdkabbjknclifaa.Pure
end
section
namespace Go.Proofs.Ytdkabbjknclifaa.Pure
open Go.RowKit Go.Proofs.Ytdkabbjknclifaa.F Go.Proofs.YtdkabbjknclifaaW.PrintWords Go.Proofs.YtdkabbjknclifaaW.PrintLast
set_option linter.unusedVariables false
set_option linter.unusedSimpArgs false
theorem ref_check {l : List Bool} (hl : l.length ≤ 1000) (b : Bool) {k : Nat} (hk : l.length + 3 ≤ k) : R17_Check.f k b l = some (chk b l) := by
  obtain ⟨k, rfl⟩ : ∃ j, k = j + 1 := ⟨k - 1, by omega⟩
  unfold R17_Check.f chk
  rw [ref_open hl b (by omega)]
  simp only [Option.bind_some]
  by_cases h1 : l.length < 2
  · rw [if_pos (by omega), if_pos h1]; simp [R17_Check.j0]
  · rw [if_neg (by omega), if_neg h1]
    by_cases h2 : 64 < l.length
    · rw [if_pos h2]; simp only [R17_Check.j0]; rw [if_pos (decide_eq_true (by omega))]
    · rw [if_neg h2]
      simp only [R17_Check.j0]
      rw [if_neg (by simp; omega)]
      unfold fin
      repeat' split
      all_goals rfl
end Go.Proofs.Ytdkabbjknclifaa.Pure
end
section
namespace Go.Proofs.Ytdkabbjknclifaa.Pure
open Go.RowKit Go.Proofs.Ytdkabbjknclifaa.F Go.Proofs.YtdkabbjknclifaaW.PrintWords Go.Proofs.YtdkabbjknclifaaW.PrintLast
set_option linter.unusedVariables false
set_option linter.unusedSimpArgs false
theorem chk_zero {b : Bool} {l : List Bool} (h : chk b l = 0) : 2 ≤ l.length ∧ l.length ≤ 64 ∧ (openFrom 0 l).length ≤ 1 ∧ ((openFrom 0 l).length = 1 → b = false) := by
  unfold chk at h
  split at h
  · cases h
  · split at h
    · cases h
    · unfold fin at h
      split at h
      · cases h
      · split at h
        · split at h
          · cases h
          · rename_i _ _ _ _ hb
            exact ⟨by omega, by omega, by omega, fun _ => by simpa using hb⟩
        · exact ⟨by omega, by omega, by omega, fun h => by omega⟩
end Go.Proofs.Ytdkabbjknclifaa.Pure
end
section
namespace Go.Proofs.Ytdkabbjknclifaa.Pure
open Go.RowKit Go.Proofs.Ytdkabbjknclifaa.F Go.Proofs.YtdkabbjknclifaaW.PrintWords Go.Proofs.YtdkabbjknclifaaW.PrintLast
set_option linter.unusedVariables false
set_option linter.unusedSimpArgs false
/-- The contacts that are missing. -/
def miss (b : Bool) (l : List Bool) : List Int := (if b = true then [] else [-1]) ++ openFrom 0 l
end Go.Proofs.Ytdkabbjknclifaa.Pure
end
section
namespace Go.Proofs.Ytdkabbjknclifaa.Pure
open Go.RowKit Go.Proofs.Ytdkabbjknclifaa.F Go.Proofs.YtdkabbjknclifaaW.PrintWords Go.Proofs.YtdkabbjknclifaaW.PrintLast
set_option linter.unusedVariables false
set_option linter.unusedSimpArgs false
theorem miss_landings : ∀ (l : List Bool) (i : Nat) (acc : List Int), (landings i l).foldl missStep acc = acc ++ openFrom i l
  | [], _, acc => by simp [landings, openFrom]
  | x :: r, i, acc => by
    simp only [landings, List.foldl_cons]
    rw [miss_landings r (i + 1)]
    unfold missStep
    simp only [openFrom]
    by_cases h : x = true
    · simp [h]
    · simp [h]
end Go.Proofs.Ytdkabbjknclifaa.Pure
end
section
namespace Go.Proofs.Ytdkabbjknclifaa.Pure
open Go.RowKit Go.Proofs.Ytdkabbjknclifaa.F Go.Proofs.YtdkabbjknclifaaW.PrintWords Go.Proofs.YtdkabbjknclifaaW.PrintLast
set_option linter.unusedVariables false
set_option linter.unusedSimpArgs false
theorem miss_of (b : Bool) (l : List Bool) : missOf (contactsOf b l) = miss b l := by
  unfold missOf contactsOf miss
  rw [List.foldl_cons, miss_landings]
  unfold missStep
  split <;> simp
end Go.Proofs.Ytdkabbjknclifaa.Pure
end
section
namespace Go.Proofs.Ytdkabbjknclifaa.Pure
open Go.RowKit Go.Proofs.Ytdkabbjknclifaa.F Go.Proofs.YtdkabbjknclifaaW.PrintWords Go.Proofs.YtdkabbjknclifaaW.PrintLast
set_option linter.unusedVariables false
set_option linter.unusedSimpArgs false
theorem miss_nil {b : Bool} {l : List Bool} : (miss b l).length = 0 ↔ b = true ∧ (openFrom 0 l).length = 0 := by
  unfold miss
  by_cases hb : b = true
  · simp [hb]
  · simp [hb]
end Go.Proofs.Ytdkabbjknclifaa.Pure
end
section
namespace Go.Proofs.Ytdkabbjknclifaa.Pure
open Go.RowKit Go.Proofs.Ytdkabbjknclifaa.F Go.Proofs.YtdkabbjknclifaaW.PrintWords Go.Proofs.YtdkabbjknclifaaW.PrintLast
set_option linter.unusedVariables false
set_option linter.unusedSimpArgs false
theorem ref_may {l : List Bool} (hl : l.length ≤ 1000) (b : Bool) {k : Nat} (hk : l.length + 3 ≤ k) : R17_May.f k b l = some (if chk b l = 0 then (((miss b l).length : Int) == 0, 0) else (false, chk b l)) := by
  unfold R17_May.f
  rw [ref_check hl b hk]
  simp only [Option.bind_some]
  by_cases h : chk b l = 0
  · rw [if_pos h, if_pos h]
    by_cases hb : b = true
    · rw [if_pos hb, ref_open hl b (by omega)]
      simp [miss, hb]
    · rw [if_neg hb]
      have : ¬ (miss b l).length = 0 := fun e => hb (miss_nil.mp e).1
      have e : (((miss b l).length : Int) == 0) = false := beq_eq_false_iff_ne.mpr (by omega)
      rw [e]
  · rw [if_neg h, if_neg h]
end Go.Proofs.Ytdkabbjknclifaa.Pure
end
section
namespace Go.Proofs.Ytdkabbjknclifaa.Pure
open Go.RowKit Go.Proofs.Ytdkabbjknclifaa.F Go.Proofs.YtdkabbjknclifaaW.PrintWords Go.Proofs.YtdkabbjknclifaaW.PrintLast
set_option linter.unusedVariables false
set_option linter.unusedSimpArgs false
theorem lock_new (n : Int) : lock_New.f n = some (new n) := by
  unfold lock_New.f new
  by_cases h1 : n < 2
  · rw [if_pos h1, if_pos h1]
  · rw [if_neg h1, if_neg h1]
    by_cases h2 : n > 64
    · rw [if_pos h2, if_pos h2]
    · rw [if_neg h2, if_neg h2]
      unfold slices_Repeat_bool_bool.f
      rw [if_pos rfl, if_pos (by omega), if_pos (by omega)]
      rfl
end Go.Proofs.Ytdkabbjknclifaa.Pure
end
section
namespace Go.Proofs.Ytdkabbjknclifaa.Pure
open Go.RowKit Go.Proofs.Ytdkabbjknclifaa.F Go.Proofs.YtdkabbjknclifaaW.PrintWords Go.Proofs.YtdkabbjknclifaaW.PrintLast
set_option linter.unusedVariables false
set_option linter.unusedSimpArgs false
theorem new_l0 {n : Nat} (hn : n ≤ 1000) (b : Bool) : ∀ (d k i : Nat), i + d = n → d + 1 ≤ k →
    R17_New.l0 k (n : Int) (i : Int) b (List.replicate i true ++ List.replicate (n - i) false) = some (b, List.replicate n true, 0)
  | 0, k, i, hi, hk => by
    obtain ⟨k, rfl⟩ : ∃ j, k = j + 1 := ⟨k - 1, by omega⟩
    obtain rfl : i = n := by omega
    simp only [R17_New.l0]
    rw [if_neg (by omega)]
    simp
  | d + 1, k, i, hi, hk => by
    obtain ⟨k, rfl⟩ : ∃ j, k = j + 1 := ⟨k - 1, by omega⟩
    simp only [R17_New.l0]
    rw [if_pos (by omega), if_pos (by omega), if_pos (by simp; omega), w64n (by omega)]
    have e : (List.replicate i true ++ List.replicate (n - i) false).set ((i : Int)).toNat true = List.replicate (i + 1) true ++ List.replicate (n - (i + 1)) false := by
      have e1 : n - i = n - (i + 1) + 1 := by omega
      rw [e1, List.replicate_succ, Int.toNat_natCast, List.set_append_right _ _ (by simp)]
      simp [List.replicate_succ', List.append_assoc]
    rw [e]
    exact new_l0 hn b d k (i + 1) (by omega) (by omega)
end Go.Proofs.Ytdkabbjknclifaa.Pure
end
section
namespace Go.Proofs.Ytdkabbjknclifaa.Pure
open Go.RowKit Go.Proofs.Ytdkabbjknclifaa.F Go.Proofs.YtdkabbjknclifaaW.PrintWords Go.Proofs.YtdkabbjknclifaaW.PrintLast
set_option linter.unusedVariables false
set_option linter.unusedSimpArgs false
theorem ref_new (n : Int) {k : Nat} (hk : 100 ≤ k) : R17_New.f k n = some (new n) := by
  obtain ⟨k, rfl⟩ : ∃ j, k = j + 1 := ⟨k - 1, by omega⟩
  unfold R17_New.f new
  by_cases h1 : n < 2
  · rw [if_pos h1, if_pos h1]; simp [R17_New.j0]
  · rw [if_neg h1, if_neg h1]
    simp only [R17_New.j0]
    by_cases h2 : n > 64
    · rw [if_pos (decide_eq_true h2), if_pos h2]
    · rw [if_neg (by simpa using h2), if_neg h2, if_pos (by omega), if_pos (by omega)]
      obtain ⟨m, rfl⟩ : ∃ m : Nat, n = m := ⟨n.toNat, by omega⟩
      have := new_l0 (n := m) (by omega) true m k 0 (by omega) (by omega)
      simpa using this
end Go.Proofs.Ytdkabbjknclifaa.Pure
end
section
namespace Go.Proofs.Ytdkabbjknclifaa.Pure
open Go.RowKit Go.Proofs.Ytdkabbjknclifaa.F Go.Proofs.YtdkabbjknclifaaW.PrintWords Go.Proofs.YtdkabbjknclifaaW.PrintLast
set_option linter.unusedVariables false
set_option linter.unusedSimpArgs false
def unl (b : Bool) (l : List Bool) (n : Int) : Bool × List Bool × Int :=
  if chk b l = 0 then (if n < 0 then (false, [], 2) else if (l.length : Int) ≤ n then (false, [], 2) else if (miss b l).length = 0 then (false, l.set n.toNat false, 0) else (false, [], 9)) else (false, [], chk b l)
end Go.Proofs.Ytdkabbjknclifaa.Pure
end
section
namespace Go.Proofs.Ytdkabbjknclifaa.Pure
open Go.RowKit Go.Proofs.Ytdkabbjknclifaa.F Go.Proofs.YtdkabbjknclifaaW.PrintWords Go.Proofs.YtdkabbjknclifaaW.PrintLast
set_option linter.unusedVariables false
set_option linter.unusedSimpArgs false
theorem lock_unlock {l : List Bool} (hl : l.length ≤ 1000) (b : Bool) (n : Int) : lock_Unlock.f b l n = some (unl b l n) := by
  unfold lock_Unlock.f unl
  obtain ⟨F, hF⟩ : ∃ F, F = 4096 := ⟨_, rfl⟩
  rw [← hF, lock_check hl b (by omega)]
  simp only [Option.bind_some]
  by_cases h : chk b l = 0
  · rw [if_pos h, if_pos h]
    by_cases h1 : n < 0
    · rw [if_pos h1, if_pos h1]
    · rw [if_neg h1, if_neg h1]
      by_cases h2 : (l.length : Int) ≤ n
      · rw [if_pos h2, if_pos h2]
      · rw [if_neg h2, if_neg h2, if_pos (chk_zero h).2.1, miss_of]
        split <;> rfl
  · rw [if_neg h, if_neg h]
end Go.Proofs.Ytdkabbjknclifaa.Pure
end
section
namespace Go.Proofs.Ytdkabbjknclifaa.Pure
open Go.RowKit Go.Proofs.Ytdkabbjknclifaa.F Go.Proofs.YtdkabbjknclifaaW.PrintWords Go.Proofs.YtdkabbjknclifaaW.PrintLast
set_option linter.unusedVariables false
set_option linter.unusedSimpArgs false
theorem own_f {l : List Bool} (hl : l.length ≤ 1000) (b : Bool) : R17_own.f b l = some (b, l) := by
  unfold R17_own.f
  simp only [Option.bind_some]
  rw [if_pos (by simp; omega)]
  rfl
end Go.Proofs.Ytdkabbjknclifaa.Pure
end
section
namespace Go.Proofs.Ytdkabbjknclifaa.Pure
open Go.RowKit Go.Proofs.Ytdkabbjknclifaa.F Go.Proofs.YtdkabbjknclifaaW.PrintWords Go.Proofs.YtdkabbjknclifaaW.PrintLast
set_option linter.unusedVariables false
set_option linter.unusedSimpArgs false
theorem ownchain_f {l : List Bool} (hl : l.length ≤ 1000) (b : Bool) : K_OwnChain.f b l = some (b, l) := by
  unfold K_OwnChain.f
  simp only [Option.bind_some]
  rw [if_pos (by simp; omega)]
  rfl
end Go.Proofs.Ytdkabbjknclifaa.Pure
end
section
namespace Go.Proofs.Ytdkabbjknclifaa.Pure
open Go.RowKit Go.Proofs.Ytdkabbjknclifaa.F Go.Proofs.YtdkabbjknclifaaW.PrintWords Go.Proofs.YtdkabbjknclifaaW.PrintLast
set_option linter.unusedVariables false
set_option linter.unusedSimpArgs false
theorem ref_unlock {l : List Bool} (hl : l.length ≤ 1000) (b : Bool) (n : Int) {k : Nat} (hk : l.length + 3 ≤ k) : R17_Unlock.f k b l n = some (unl b l n) := by
  obtain ⟨k, rfl⟩ : ∃ j, k = j + 1 := ⟨k - 1, by omega⟩
  unfold R17_Unlock.f unl
  rw [ref_may hl b hk]
  simp only [Option.bind_some]
  by_cases h : chk b l = 0
  · simp only [h, if_true]
    by_cases h1 : n < 0
    · rw [if_pos h1, if_pos h1]; simp [R17_Unlock.j0]
    · rw [if_neg h1, if_neg h1]
      simp only [R17_Unlock.j0]
      by_cases h2 : (l.length : Int) ≤ n
      · rw [if_pos h2, if_pos (decide_eq_true h2)]
      · rw [if_neg h2, if_neg (by simpa using h2)]
        by_cases h3 : (miss b l).length = 0
        · rw [if_pos h3, if_pos (by simpa using h3), own_f hl b]
          simp only [Option.bind_some]
          rw [if_pos (by omega), if_pos (by omega)]
        · rw [if_neg h3, if_neg (by simpa using h3)]
  · simp only [h, if_false]
end Go.Proofs.Ytdkabbjknclifaa.Pure
end
section
namespace Go.Proofs.Ytdkabbjknclifaa.Pure
open Go.RowKit Go.Proofs.Ytdkabbjknclifaa.F Go.Proofs.YtdkabbjknclifaaW.PrintWords Go.Proofs.YtdkabbjknclifaaW.PrintLast
set_option linter.unusedVariables false
set_option linter.unusedSimpArgs false
def lck (b : Bool) (l : List Bool) : Bool × List Bool × Int := if chk b l = 0 then new l.length else (false, [], chk b l)
end Go.Proofs.Ytdkabbjknclifaa.Pure
end
section
namespace Go.Proofs.Ytdkabbjknclifaa.Pure
open Go.RowKit Go.Proofs.Ytdkabbjknclifaa.F Go.Proofs.YtdkabbjknclifaaW.PrintWords Go.Proofs.YtdkabbjknclifaaW.PrintLast
set_option linter.unusedVariables false
set_option linter.unusedSimpArgs false
theorem lock_lock {l : List Bool} (hl : l.length ≤ 1000) (b : Bool) {k : Nat} (hk : l.length + 3 ≤ k) : lock_Lock.f k b l = some (lck b l) := by
  unfold lock_Lock.f lck
  rw [lock_check hl b hk, lock_new]
  simp only [Option.bind_some]
  split <;> rfl
end Go.Proofs.Ytdkabbjknclifaa.Pure
end
section
namespace Go.Proofs.Ytdkabbjknclifaa.Pure
open Go.RowKit Go.Proofs.Ytdkabbjknclifaa.F Go.Proofs.YtdkabbjknclifaaW.PrintWords Go.Proofs.YtdkabbjknclifaaW.PrintLast
set_option linter.unusedVariables false
set_option linter.unusedSimpArgs false
theorem ref_lock {l : List Bool} (hl : l.length ≤ 1000) (b : Bool) {k : Nat} (hk : l.length + 3 ≤ k) (hk' : 100 ≤ k) : R17_Lock.f k b l = some (lck b l) := by
  unfold R17_Lock.f lck
  rw [ref_check hl b hk, ref_new _ hk']
  simp only [Option.bind_some]
  split <;> rfl
end Go.Proofs.Ytdkabbjknclifaa.Pure
end
section
namespace Go.Proofs.Ytdkabbjknclifaa.Pure
open Go.RowKit Go.Proofs.Ytdkabbjknclifaa.F Go.Proofs.YtdkabbjknclifaaW.PrintWords Go.Proofs.YtdkabbjknclifaaW.PrintLast
set_option linter.unusedVariables false
set_option linter.unusedSimpArgs false
theorem index_l0 {l : List Bool} (hl : l.length ≤ 1000) : ∀ (d k i : Nat), i + d = l.length → d + 1 ≤ k →
    slices_Index_bool_bool.l0 k l false (l.length : Int) (i : Int) = some ((openFrom i (l.drop i)).head?.getD (-1))
  | 0, k, i, hi, hk => by
    obtain ⟨k, rfl⟩ : ∃ j, k = j + 1 := ⟨k - 1, by omega⟩
    obtain rfl : i = l.length := by omega
    simp only [slices_Index_bool_bool.l0]
    rw [if_neg (by omega), List.drop_length]
    simp [openFrom]
  | d + 1, k, i, hi, hk => by
    obtain ⟨k, rfl⟩ : ∃ j, k = j + 1 := ⟨k - 1, by omega⟩
    simp only [slices_Index_bool_bool.l0]
    rw [if_pos (by omega), if_pos (by omega), if_pos (by omega), rd_drop (d := false) (show i < l.length by omega), w64n (by omega)]
    by_cases h : rdOf false l (i : Int) = true
    · rw [if_neg (by rw [h]; decide), index_l0 hl d k (i + 1) (by omega) (by omega)]
      simp only [openFrom, if_pos h]
    · rw [if_pos (by rw [Bool.not_eq_true] at h; rw [h]; rfl)]
      simp only [openFrom, if_neg h, List.head?_cons, Option.getD_some]
end Go.Proofs.Ytdkabbjknclifaa.Pure
end
section
namespace Go.Proofs.Ytdkabbjknclifaa.Pure
open Go.RowKit Go.Proofs.Ytdkabbjknclifaa.F Go.Proofs.YtdkabbjknclifaaW.PrintWords Go.Proofs.YtdkabbjknclifaaW.PrintLast
set_option linter.unusedVariables false
set_option linter.unusedSimpArgs false
def slm (b : Bool) (l : List Bool) : Bool × List Bool × Int × Int :=
  if chk b l = 0 then (if (openFrom 0 l).length = 0 then (false, [], 0, 6) else (b, l.set ((openFrom 0 l).head?.getD (-1)).toNat true, (openFrom 0 l).head?.getD (-1), 0)) else (false, [], 0, chk b l)
end Go.Proofs.Ytdkabbjknclifaa.Pure
end
section
namespace Go.Proofs.Ytdkabbjknclifaa.Pure
open Go.RowKit Go.Proofs.Ytdkabbjknclifaa.F Go.Proofs.YtdkabbjknclifaaW.PrintWords Go.Proofs.YtdkabbjknclifaaW.PrintLast
set_option linter.unusedVariables false
set_option linter.unusedSimpArgs false
theorem open_head {l : List Bool} (h : ¬ (openFrom 0 l).length = 0) : 0 ≤ (openFrom 0 l).head?.getD (-1) ∧ (openFrom 0 l).head?.getD (-1) < (l.length : Int) := by
  cases hx : openFrom 0 l with
  | nil => rw [hx] at h; simp at h
  | cons x r =>
    have := openFrom_mem l 0 x (by rw [hx]; simp)
    simp
    omega
end Go.Proofs.Ytdkabbjknclifaa.Pure
end
section
namespace Go.Proofs.Ytdkabbjknclifaa.Pure
open Go.RowKit Go.Proofs.Ytdkabbjknclifaa.F Go.Proofs.YtdkabbjknclifaaW.PrintWords Go.Proofs.YtdkabbjknclifaaW.PrintLast
set_option linter.unusedVariables false
set_option linter.unusedSimpArgs false
theorem lock_slam {l : List Bool} (hl : l.length ≤ 1000) (b : Bool) : lock_Slam.f b l = some (slm b l) := by
  unfold lock_Slam.f slm
  obtain ⟨F, hF⟩ : ∃ F, F = 4096 := ⟨_, rfl⟩
  rw [← hF, lock_check hl b (by omega)]
  simp only [Option.bind_some]
  by_cases h : chk b l = 0
  · rw [if_pos h, if_pos h]
    have hi := index_l0 hl l.length F 0 (by omega) (by omega)
    unfold slices_Index_bool_bool.f
    rw [List.drop_zero] at hi
    rw [show ((0 : Int)) = ((0 : Nat) : Int) from rfl, hi]
    simp only [Option.bind_some]
    by_cases h1 : (openFrom 0 l).length = 0
    · rw [if_pos h1, List.eq_nil_of_length_eq_zero h1]
      simp
    · have := open_head h1
      rw [if_neg h1, if_neg (by omega), if_pos (chk_zero h).2.1, if_pos this.2]
  · rw [if_neg h, if_neg h]
end Go.Proofs.Ytdkabbjknclifaa.Pure
end
section
namespace Go.Proofs.Ytdkabbjknclifaa.Pure
open Go.RowKit Go.Proofs.Ytdkabbjknclifaa.F Go.Proofs.YtdkabbjknclifaaW.PrintWords Go.Proofs.YtdkabbjknclifaaW.PrintLast
set_option linter.unusedVariables false
set_option linter.unusedSimpArgs false
theorem ref_slam {l : List Bool} (hl : l.length ≤ 1000) (b : Bool) {k : Nat} (hk : l.length + 3 ≤ k) : R17_Slam.f k b l = some (slm b l) := by
  unfold R17_Slam.f slm
  rw [ref_check hl b hk]
  simp only [Option.bind_some]
  by_cases h : chk b l = 0
  · rw [if_pos h, if_pos h, ref_open hl b (by omega)]
    simp only [Option.bind_some]
    by_cases h1 : (openFrom 0 l).length = 0
    · rw [if_pos (by omega), if_pos h1]
    · have := open_head h1
      have e : rd (openFrom 0 l) 0 = (openFrom 0 l).head?.getD (-1) := by
        cases hx : openFrom 0 l with
        | nil => rw [hx] at h1; simp at h1
        | cons x r => simp [rd]
      rw [if_neg (by omega), if_neg h1, own_f hl b]
      simp only [Option.bind_some]
      rw [e, if_pos (by omega), if_pos this.1, if_pos this.2]
  · rw [if_neg h, if_neg h]
end Go.Proofs.Ytdkabbjknclifaa.Pure
end
section
namespace Go.Proofs.Ytdkabbjknclifaa.Pure
open Go.RowKit Go.Proofs.Ytdkabbjknclifaa.F Go.Proofs.YtdkabbjknclifaaW.PrintWords Go.Proofs.YtdkabbjknclifaaW.PrintLast
set_option linter.unusedVariables false
set_option linter.unusedSimpArgs false
theorem bools_l0 {l : List Bool} (hl : l.length ≤ 1000) : ∀ (d k i : Nat), i + d = l.length → d + 1 ≤ k → K_SameBools.l0 k l l (i : Int) = some true
  | 0, k, i, hi, hk => by
    obtain ⟨k, rfl⟩ : ∃ j, k = j + 1 := ⟨k - 1, by omega⟩
    simp only [K_SameBools.l0]
    rw [if_neg (by omega)]
  | d + 1, k, i, hi, hk => by
    obtain ⟨k, rfl⟩ : ∃ j, k = j + 1 := ⟨k - 1, by omega⟩
    simp only [K_SameBools.l0]
    rw [if_pos (by omega), if_pos (by omega), if_pos (by omega), if_neg (by simp), w64n (by omega)]
    exact bools_l0 hl d k (i + 1) (by omega) (by omega)
end Go.Proofs.Ytdkabbjknclifaa.Pure
end
section
namespace Go.Proofs.Ytdkabbjknclifaa.Pure
open Go.RowKit Go.Proofs.Ytdkabbjknclifaa.F Go.Proofs.YtdkabbjknclifaaW.PrintWords Go.Proofs.YtdkabbjknclifaaW.PrintLast
set_option linter.unusedVariables false
set_option linter.unusedSimpArgs false
theorem same_chain {l : List Bool} (hl : l.length ≤ 1000) (b : Bool) {k : Nat} (hk : l.length + 1 ≤ k) : K_SameChain.f k b l b l = some true := by
  unfold K_SameChain.f K_SameBools.f
  have := bools_l0 hl l.length k 0 (by omega) hk

  rw [if_pos (by simp), if_pos rfl, show ((0 : Int)) = ((0 : Nat) : Int) from rfl, this]
  rfl
end Go.Proofs.Ytdkabbjknclifaa.Pure
end
section
namespace Go.Proofs.Ytdkabbjknclifaa.Pure
open Go.RowKit Go.Proofs.Ytdkabbjknclifaa.F Go.Proofs.YtdkabbjknclifaaW.PrintWords Go.Proofs.YtdkabbjknclifaaW.PrintLast
set_option linter.unusedVariables false
theorem awake_true : L17_awake.f = some true := by kernel_rfl
end Go.Proofs.Ytdkabbjknclifaa.Pure
end
section
namespace Go.Proofs.Ytdkabbjknclifaa.Pure
open Go.RowKit Go.Proofs.Ytdkabbjknclifaa.F Go.Proofs.YtdkabbjknclifaaW.PrintWords Go.Proofs.YtdkabbjknclifaaW.PrintLast
set_option linter.unusedVariables false
theorem new_le (n : Int) : (new n).2.1.length ≤ 64 := by
  unfold new
  split
  · simp
  · split
    · simp
    · simp; omega
end Go.Proofs.Ytdkabbjknclifaa.Pure
end
section
namespace Go.Proofs.Ytdkabbjknclifaa.Pure
open Go.RowKit Go.Proofs.Ytdkabbjknclifaa.F Go.Proofs.YtdkabbjknclifaaW.PrintWords Go.Proofs.YtdkabbjknclifaaW.PrintLast
set_option linter.unusedVariables false
theorem unl_le {b : Bool} {l : List Bool} (hl : l.length ≤ 1000) (n : Int) : (unl b l n).2.1.length ≤ 1000 := by
  unfold unl
  repeat' split
  all_goals simp
  all_goals omega
end Go.Proofs.Ytdkabbjknclifaa.Pure
end
section
namespace Go.Proofs.Ytdkabbjknclifaa.Pure
open Go.RowKit Go.Proofs.Ytdkabbjknclifaa.F Go.Proofs.YtdkabbjknclifaaW.PrintWords Go.Proofs.YtdkabbjknclifaaW.PrintLast
set_option linter.unusedVariables false
theorem lck_le {b : Bool} {l : List Bool} : (lck b l).2.1.length ≤ 1000 := by
  unfold lck
  split
  · have := new_le (l.length : Int); omega
  · simp
end Go.Proofs.Ytdkabbjknclifaa.Pure
end
section
namespace Go.Proofs.Ytdkabbjknclifaa.Pure
open Go.RowKit Go.Proofs.Ytdkabbjknclifaa.F Go.Proofs.YtdkabbjknclifaaW.PrintWords Go.Proofs.YtdkabbjknclifaaW.PrintLast
set_option linter.unusedVariables false
theorem slm_le {b : Bool} {l : List Bool} (hl : l.length ≤ 1000) : (slm b l).2.1.length ≤ 1000 := by
  unfold slm
  repeat' split
  all_goals simp
  all_goals omega
end Go.Proofs.Ytdkabbjknclifaa.Pure
end
section
namespace Go.Proofs.Ytdkabbjknclifaa.Pure
open Go.RowKit Go.Proofs.Ytdkabbjknclifaa.F Go.Proofs.YtdkabbjknclifaaW.PrintWords Go.Proofs.YtdkabbjknclifaaW.PrintLast
set_option linter.unusedVariables false
theorem LockTurns : lockTurns.Law := by
  rintro ⟨b, l⟩ n m - hn hm
  obtain ⟨k, hk⟩ : ∃ k, 2000 ≤ k := ⟨2000, Nat.le_refl _⟩
  refine ⟨k, ?_⟩
  unfold L17_LockTurns.f
  by_cases hl : (l.length : Int) > 70
  · rw [if_pos hl, awake_true]; rfl
  · rw [if_neg hl]
    have hl' : l.length ≤ 1000 := by omega
    have hnl := new_le m
    rw [ownchain_f hl' b, lock_new, ref_new m (by omega)]
    simp only [Option.bind_some]
    rw [same_chain (by omega) _ (by omega)]
    simp only [Option.bind_some, if_true]
    rw [lock_check hl' b (by omega), ref_check hl' b (by omega)]
    simp only [Option.bind_some, bne_self_eq_false]
    obtain ⟨k, rfl⟩ : ∃ j, k = j + 1 := ⟨k - 1, by omega⟩
    simp only [L17_LockTurns.j0]
    rw [if_neg (by decide), lock_unlock hl', ref_unlock hl' b n (by omega)]
    simp only [Option.bind_some]
    have h1 := unl_le (b := b) hl' n
    rw [same_chain h1 _ (by omega)]
    simp only [Option.bind_some, if_true, bne_self_eq_false]
    obtain ⟨k, rfl⟩ : ∃ j, k = j + 1 := ⟨k - 1, by omega⟩
    simp only [L17_LockTurns.j1]
    rw [if_neg (by decide), lock_lock hl' b (by omega), ref_lock hl' b (by omega) (by omega)]
    simp only [Option.bind_some]
    have h2 := lck_le (b := b) (l := l)
    rw [same_chain h2 _ (by omega)]
    simp only [Option.bind_some, if_true, bne_self_eq_false]
    obtain ⟨k, rfl⟩ : ∃ j, k = j + 1 := ⟨k - 1, by omega⟩
    simp only [L17_LockTurns.j2]
    rw [if_neg (by decide), lock_slam hl' b, ref_slam hl' b (by omega)]
    simp only [Option.bind_some]
    have h3 := slm_le (b := b) hl'
    rw [same_chain h3 _ (by omega), same_chain hl' b (by omega)]
    simp only [Option.bind_some, if_true]
    rw [awake_true]
    rfl
end Go.Proofs.Ytdkabbjknclifaa.Pure
end
section
/- The statement LockTurns holds: the law's function answers true at every input, and the input reads as it did. No condition. (Written by fork.py; its parameters are structs.) -/
namespace Go.Proofs.Ytdkabbjknclifaa.lockTurns
open Go.ChangeShapes Go.WideShapes Go.ChangeAt Go.RowKit Go.Proofs.YtdkabbjknclifaaW.PrintWords
open Go.ChangeMaps (open_string shut_string)
set_option linter.unusedVariables false
theorem own : ownKnob Try.prog.godebug = none := by kernel_rfl
theorem laidOut : laidOutB Try.prog = true := by kernel_rfl
theorem opens25 : F.Opens Try.prog 25 F.k25 Wf25 := by
  have h := F.opens_struct (fun x : F.S25 => (x.f0, x.f1)) (fun y => ⟨y.1, y.2⟩) (fun _ => rfl) Try.underlying25 (by kernel_rfl)
    (F.opensFs_cons rfl (F.opens_bool Try.underlying4 (by kernel_rfl)) (F.opensFs_one rfl (F.opens_slice Try.underlying23 (by kernel_rfl) (F.opens_bool Try.underlying4 (by kernel_rfl)))))
  exact h
set_option maxRecDepth 100000 in
theorem lifted (os : Os) (started : os.Started) (H : Type) (enc : TypeId × Value → H) :
    ReturnsInHanded {} Try.checked os 5 .any (Rows.lockTurnsSpec.pre6 enc Try.prog Try.f5 Rows.lockTurnsRow.domain false) (Rows.lockTurnsSpec.post enc Try.prog Try.f5 false true false false) := by
  refine returnsInHanded_of_change_sized (C := Try.checked) own started (by kernel_rfl) Try.func5
    (ChangeSpec.witness6 (enc := enc) (C := Try.checked) false ⟨#[], #[.agg #[.bool false, .slice none 0 0], .int .i64 0, .int .i64 0], []⟩ 8 (by kernel_rfl) (by kernel_rfl) (by kernel_rfl) (by kernel_rfl)) ?_
  intro W base args ds gs before hval0 hW hcnd hsz0 _
  have hval : ∀ (j : Nat) t v, Try.f5.params[j]? = some t → args[j]? = some v → Value.okWide Try.prog W .any base t v := hval0
  have hW' := hW
  obtain ⟨p, q, hA0, hV, rfl, hfz, hnd⟩ := hW
  have hA : DataW.TrodAll enc Try.prog W 0 (fun _ => true) true Try.f5.params.toList args.toList ds p := hA0
  rw [Try.params5] at hA hval
  obtain ⟨v0, vs0, d0, ds0, p0, q0, hargs, rfl, rfl, h0, r0⟩ := trodAll_cons hA
  obtain ⟨v1, vs1, d1, ds1, p1, q1, rfl, rfl, rfl, h1, r1⟩ := trodAll_cons r0
  obtain ⟨v2, vs2, d2, ds2, p2, q2, rfl, rfl, rfl, h2, r2⟩ := trodAll_cons r1
  obtain ⟨rfl, rfl, rfl⟩ := trodAll_nil r2
  obtain rfl : args = #[v0, v1, v2] := by cases args; simp_all
  obtain ⟨rfl, rfl⟩ := trodVars_none hV
  have lt0 : ∀ x ∈ p0, x.block < W.heap.size := by obtain ⟨m, hm⟩ := h0; exact DataW.trod_lt m _ _ _ hm
  have lt1 : ∀ x ∈ p1, x.block < W.heap.size := by obtain ⟨m, hm⟩ := h1; exact DataW.trod_lt m _ _ _ hm
  have lt2 : ∀ x ∈ p2, x.block < W.heap.size := by obtain ⟨m, hm⟩ := h2; exact DataW.trod_lt m _ _ _ hm
  obtain ⟨cs0, rfl, _⟩ := okWide_struct Try.underlying25 (hval 0 25 v0 rfl rfl)
  obtain ⟨y0, K0, f0⟩ := opens25.arg h0
  obtain ⟨A0_1, c0_1, e0, l0_1, g0_1⟩ := F.k25_open K0
  obtain rfl : cs0 = #[.bool y0.f0, .slice A0_1 y0.f1.length c0_1] := Array.toList_inj.1 e0
  obtain ⟨y1, rfl, rfl, rfl, f1⟩ := open_int Try.underlying3 (hval 1 3 v1 rfl rfl) h1
  obtain ⟨y2, rfl, rfl, rfl, f2⟩ := open_int Try.underlying3 (hval 2 3 v2 rfl rfl) h2
  clear hA0 hval0 hsz0
  obtain ⟨k, hk⟩ := Pure.LockTurns y0 y1 y2 f0 f1 f2
  refine (F.L17_LockTurns.calls k y0.f0 _ _ y0.f1 y1 y2 true W g0_1 l0_1 hk).mono fun e W' ⟨he, bel⟩ => ?_
  subst he
  exact ⟨_, rfl, _, _, _, [], _, [], hW', trodAll_mk1 (shut_bool Try.underlying4 _), (trodAll_cons_mk (Below.trod laidOut (by kernel_rfl) (of_decide_eq_true (by kernel_rfl)) h0 bel lt0) (trodAll_cons_mk (shut_int Try.underlying3 f1) (trodAll_cons_mk (shut_int Try.underlying3 f2) trodAll_mk0))), rfl, bel.frame _, fun h => by cases h⟩
theorem over : Rows.lockTurnsRow.holds Try.pinned (OpenSpec.ofChange Rows.lockTurnsSpec) :=
  OpenClaim.holds_of_wide 5 Try.f5 rfl rfl rfl rfl rfl rfl rfl ⟨rfl, rfl, rfl, rfl, rfl⟩ rfl rfl rfl rfl rfl (by kernel_rfl) Try.func5 (by show joinedFacts Try.prog 5 Try.f5 Rows.lockTurnsSpec Rows.lockTurnsRow = true; unfold joinedFacts; rw [may_enter, lifts_not, make_cut]; kernel_rfl)
    (of_decide_eq_true (by kernel_rfl)) (by unfold Func.isWrapper; first | (rw [if_pos (by decide +kernel)]; kernel_rfl) | (rw [if_neg (by decide +kernel)]; exact ⟨rfl, rfl⟩))
    (fun os started H enc _ => lifted os started H enc)
theorem proved : Rows.LockTurnsSaid := over
#print axioms proved
end Go.Proofs.Ytdkabbjknclifaa.lockTurns
namespace Go.Proofs.Ytdkabbjknclifaa
/-- The row, under a short name, for the claim. -/
theorem lockTurns_holds : Rows.LockTurnsSaid := lockTurns.proved
end Go.Proofs.Ytdkabbjknclifaa
end

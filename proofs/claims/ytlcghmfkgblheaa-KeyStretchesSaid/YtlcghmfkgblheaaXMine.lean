/- 'for x := range seq { .. }' where the iterator has blocks of its own (a local struct), and the body writes blocks of its own: a law by hand over the kit's (L1), (L2). -/
import Derived.RangeFuncNested
import Derived.RangeFuncBound
import Derived.RangeFuncCalls
import Derived.RangeFuncLeaves
import Derived.Shelf.Abstract
import Derived.Shelf.RegionOpen
import Derived.OwnWalkIn
import Derived.TacticsInMore
import Derived.LoopNIn
import Derived.LoopIn
import Derived.Maps.AppendAt
namespace Go.Proofs.Ytlcghmfkgblheaa.F
open Go.RowKit

/-- B is A, but for the blocks that t names, and for what is new. -/
structure Turned (t : Nat → Prop) (A B : World) : Prop where
  os : B.os = A.os
  tape : B.tape = A.tape
  output : B.output = A.output
  size : A.heap.size ≤ B.heap.size
  block : ∀ k, k < A.heap.size → ¬ t k → B.heap[k]? = A.heap[k]?

theorem Turned.refl (t : Nat → Prop) (A : World) : Turned t A A := ⟨rfl, rfl, rfl, Nat.le_refl _, fun _ _ _ => rfl⟩
theorem Turned.trans {t : Nat → Prop} {A B C : World} (h : Turned t A B) (k : Turned t B C) : Turned t A C :=
  ⟨k.os.trans h.os, k.tape.trans h.tape, k.output.trans h.output, Nat.le_trans h.size k.size, fun i hi ht => (k.block i (Nat.lt_of_lt_of_le hi h.size) ht).trans (h.block i hi ht)⟩
theorem Turned.mono {t t' : Nat → Prop} {A B : World} (h : Turned t A B) (ht : ∀ k, t k → t' k) : Turned t' A B := ⟨h.os, h.tape, h.output, h.size, fun k hk hn => h.block k hk (fun e => hn (ht k e))⟩
theorem Turned.of_below {t : Nat → Prop} {A B : World} (h : Below A.heap.size A B) : Turned t A B := ⟨h.os, h.tape, h.output, h.size, fun k hk _ => h.block k hk⟩
theorem Turned.below {t : Nat → Prop} {n : Nat} {A B : World} (h : Turned t A B) (hn : n ≤ A.heap.size) (ht : ∀ k, k < n → ¬ t k) : Below n A B := ⟨h.os, h.tape, h.output, h.size, fun k hk => h.block k (by omega) (ht k hk)⟩
theorem Turned.of_grown {A B : World} {row : Option Nat} (h : A.grownBy B row) : Turned (fun k => some k = row) A B := ⟨h.os, h.tape, h.output, h.size, fun k hk hn => h.block k hk hn⟩
theorem Turned.alloc {t : Nat → Prop} (A : World) (o : Obj) : Turned t A (A.alloc o) := (Turned.of_grown (World.grownBy_alloc A o none)).mono (fun k e => by cases e)
theorem Turned.setCell (A : World) (p : Addr) (u : Value) : Turned (fun k => k = p.block) A (A.setCell p u) := ⟨rfl, rfl, rfl, by simp [World.setCell], fun k _ hn => Below.heap_setCell A p u k hn⟩
theorem Turned.putObj (A : World) (l : Nat) (o : Obj) : Turned (fun k => k = l) A (A.putObj l o) :=
  (Turned.of_grown (grownBy_putObj' A l o)).mono (fun k e => by injection e)

/-- THE ITERATOR's CONTRACT: it hands out res; J: what the caller says of what has come; O: the iterator's own blocks. -/
def IterMine {α : Type} (n : Nat) (P : Program) (gf : Nat) (lb : Array Value) (enc : α → Value) (keep : Nat → Prop) (N : Nat) (res : List α) (W : World) : Prop :=
  ∀ (l : Nat) (J : (Nat → Prop) → List α → World → Prop),
    (∀ O O' pre A B, J O pre A → Turned O A B → (∀ k, O k → O' k) → (∀ k, O' k → O k ∨ (A.heap.size ≤ k ∧ k < B.heap.size)) → J O' pre B) →
    (∀ O pre x W1, J O pre W1 → pre.length ≤ N → YieldAt Fence.wide (n - 1) P l #[enc x] W1 fun e W' =>
      e = .returned (.bool true) ∧ J O (pre ++ [x]) W' ∧ Turned (fun k => ¬ (keep k ∨ O k)) W1 W' ∧ ∀ k, keep k ∨ O k → k < W1.heap.size) →
    J (fun _ => False) [] W →
    CallsIn Fence.wide n P gf (#[.func (.yield l) #[] #[]] ++ lb) W fun e W' => (∃ v, e = .returned v) ∧ ∃ O, J O res W'

/-- HOW A ROUND's BODY MAY BE LEFT: off its end. -/
def minePost {α : Type} (D l : Nat) (keep O : Nat → Prop) (I : (Nat → Prop) → List α → World → Prop) (xs : List α) (W W2 : World) : Exit → Act → World → Prop
  | .normal, _, W3 => W3.heap[l]? = W2.heap[l]? ∧ W3.heap[D]? = W2.heap[D]? ∧ I O xs W3 ∧ Turned (fun k => ¬ (keep k ∨ O k)) W W3
  | _, _, _ => False

theorem wpIn_rangeFunc_mine {α : Type} {P : Program} {n : Nat} {g : Operand} {p : Tmp} {assign body : Code} {Q : Exit → Act → World → Prop} {a : Act} {w : World} (h1 : 1 ≤ n)
    {gf : Nat} {lb : Array Value} (hg : a.eval g = .func (.func gf) #[] lb) (eg : ∀ args w, (callFunc gf args).run P w = .ok (.enter gf args) w)
    (enc : α → Value) (keep : Nat → Prop) (hkeep : ∀ k, keep k → k < w.heap.size) (N : Nat) (res : List α)
    (hseq : ∀ W, Below w.heap.size w W → W.heap.size = w.heap.size + 2 → IterMine (n - 1) P gf lb enc keep N res W)
    (I : (Nat → Prop) → List α → World → Prop)
    (hI : ∀ O O' pre A B, I O pre A → (∀ k, O k → w.heap.size + 2 ≤ k ∧ k < A.heap.size) → Turned (fun k => O k ∨ k = w.heap.size ∨ k = w.heap.size + 1) A B → (∀ k, O k → O' k) → (∀ k, O' k → O k ∨ (A.heap.size ≤ k ∧ k < B.heap.size)) → I O' pre B)
    (h0 : I (fun _ => False) [] w)
    (hround : ∀ (O : Nat → Prop) pre x W, I O pre W → pre.length ≤ N → (∀ k, O k → w.heap.size + 2 ≤ k ∧ k < W.heap.size) → w.heap.size + 2 ≤ W.heap.size →
      assign.wpIn (Fence.wide.inRound (w.heap.size + 1)) (n - 1 - 1) P (Exit.then (fun a1 W1 => W1.heap[w.heap.size + 1]? = W.heap[w.heap.size + 1]? ∧ W1.heap[w.heap.size]? = W.heap[w.heap.size]? ∧
        ∀ W2, Turned (fun k => k = w.heap.size + 1) W1 W2 → W2.heap.size = W1.heap.size → body.wpIn (Fence.wide.inRound (w.heap.size + 1)) (n - 1 - 1) P (minePost w.heap.size (w.heap.size + 1) keep O I (pre ++ [x]) W W2) a1 W2) (fun _ _ _ => False))
        { tmps := a.tmps.setIfInBounds p (enc x), defers := [] } W)
    (hdone : ∀ O W, I O res W → (∀ k, O k → w.heap.size + 2 ≤ k ∧ k < W.heap.size) → W.heap[w.heap.size]? = some (.deferred (some [])) → Q .normal { a with defers := { target := .collected w.heap.size, args := #[] } :: a.defers } W) :
    (Code.rangeFunc g #[p] assign body).wpIn Fence.wide n P Q a w := by
  refine wpIn_rangeFunc ?_
  intro fn hfn
  obtain ⟨rec, hrec⟩ : ∃ rec : LoopState → Option Code → Loop, rec = fun st pe => { state := st, pending := pe, fn, tmps := a.tmps, params := #[p], assign, body, defers := w.heap.size } := ⟨_, rfl⟩
  obtain ⟨W1, hW1⟩ : ∃ W1, (w.alloc (.deferred (some []))).alloc (.loop (rec .ready none)) = W1 := ⟨_, rfl⟩
  have hs1 : W1.heap.size = w.heap.size + 2 := by rw [← hW1]; simp
  have hL1 : W1.heap[w.heap.size + 1]? = some (.loop (rec .ready none)) := by
    rw [← hW1]; have := World.alloc_heap_new (w.alloc (.deferred (some []))) (.loop (rec .ready none)); rwa [World.size_alloc] at this
  have hD1 : W1.heap[w.heap.size]? = some (.deferred (some [])) := by
    rw [← hW1]; exact (Below.heap_alloc _ _ _ (by simp)).trans (World.alloc_heap_new w _)
  have hb1 : Below w.heap.size w W1 := by
    rw [← hW1]; exact ((Below.refl _ w).alloc (Nat.le_refl _) _).alloc (by simp) _
  refine ⟨w.heap.size + 1, [{ target := .collected w.heap.size, args := #[] }], W1, { target := .fn (.func gf) lb, args := #[.func (.yield (w.heap.size + 1)) #[] #[]] }, W1, gf,
    #[.func (.yield (w.heap.size + 1)) #[] #[]] ++ lb, W1, ?_, ?_, fun _ _ => trivial, ?_, fun _ => h1, ?_⟩
  · rw [← hW1, hrec]; exact run_enterLoop_outer _ _ _ _ _
  · simp only [resolve, hg]
    simp [go_sem]
  · simp [invoke, go_sem, eg]
  · refine (hseq W1 hb1 hs1 (w.heap.size + 1)
      (fun O pre W => I O pre W ∧ (∀ k, O k → w.heap.size + 2 ≤ k ∧ k < W.heap.size) ∧ w.heap.size + 2 ≤ W.heap.size ∧ W.heap[w.heap.size + 1]? = some (.loop (rec .ready none)) ∧ W.heap[w.heap.size]? = some (.deferred (some [])))
      ?_ ?_ ⟨hI _ _ _ _ _ h0 (fun _ h => h.elim) (.of_below hb1) (fun _ h => h) (fun _ h => h.elim), fun _ h => h.elim, by omega, hL1, hD1⟩).mono ?_
    · rintro O O' pre A B ⟨hi, hO, hz, hl, hd⟩ ht hup hnew
      refine ⟨hI _ _ _ _ _ hi hO (ht.mono fun k h => .inl h) hup hnew, fun k hk => ?_, Nat.le_trans hz ht.size, (ht.block _ (by omega) fun h => by have := hO _ h; omega).trans hl, (ht.block _ (by omega) fun h => by have := hO _ h; omega).trans hd⟩
      rcases hnew k hk with h | h
      · have := hO k h; have := ht.size; omega
      · omega
    · rintro O pre x W ⟨hi, hO, hz, hl, hd⟩ hlen
      have hy := run_yield (P := P) (args := #[enc x]) hl (by rw [hrec]; rfl)
      rw [hrec] at hy
      refine ⟨fn, _, assign, body, hy, roundIn_of_wpIn hfn ?_⟩
      have hr := hround O pre x W hi hlen hO hz
      refine wpIn_mono (by simpa using hr) ?_
      rintro e a1 Wa hp
      cases e with
      | normal =>
        obtain ⟨hla, hda, hbody⟩ := hp
        have hl' := hla.trans hl
        refine ⟨_, run_beginRound hl' (by rw [hrec]), ?_⟩
        have hlt : w.heap.size + 1 < Wa.heap.size := (Array.getElem?_eq_some_iff.1 hl').1
        refine wpIn_mono (hbody _ (Turned.putObj _ _ _) (by simp [World.putObj])) ?_
        rintro e a3 W3 hp
        cases e with
        | normal =>
          obtain ⟨hl3, hd3, hi3, ht3⟩ := hp
          have hl4 : W3.heap[w.heap.size + 1]? = some (.loop { rec .ready none with state := .busy }) := hl3.trans (World.putObj_heap_same hlt)
          have hd4 : W3.heap[w.heap.size]? = some (.deferred (some [])) := hd3.trans ((World.putObj_heap_other (by omega)).trans (hda.trans hd))
          have hend := run_endRound (P := P) none hl4
          rw [hrec] at hend
          have hO3 : ∀ k, O k → w.heap.size + 2 ≤ k ∧ k < W3.heap.size := fun k hk => ⟨(hO k hk).1, Nat.lt_of_lt_of_le (hO k hk).2 ht3.size⟩
          refine ⟨_, _, hend, rfl, ⟨hI _ _ _ _ _ hi3 hO3 ((Turned.putObj _ _ _).mono (fun k h => .inr (.inr h))) (fun _ h => h) (fun _ h => .inl h), fun k hk => ?_, ?_, ?_, (World.putObj_heap_other (by omega)).trans hd4⟩, ht3.trans ((Turned.putObj _ _ _).mono fun k h => ?_), fun k h => ?_⟩
          · have := hO3 k hk; simpa [World.putObj] using this
          · have := ht3.size; simp [World.putObj]; omega
          · rw [hrec]; exact World.putObj_heap_same (Array.getElem?_eq_some_iff.1 hl4).1
          · subst h
            rintro (h | h)
            · have := hkeep _ h; omega
            · have := (hO _ h).1; omega
          · rcases h with h | h
            · have := hkeep _ h; omega
            · exact (hO _ h).2
        | _ => exact hp.elim
      | _ => exact hp.elim
    · rintro e W2 ⟨⟨v, rfl⟩, O, hi, hO, hz, hl, hd⟩
      refine ⟨none, _, by have := run_endLoop (P := P) hl (by rw [hrec]; simp); rw [hrec] at this; exact this, hdone O _ (hI _ _ _ _ _ hi hO ((Turned.putObj _ _ _).mono (fun k h => .inr (.inr h))) (fun _ h => h) (fun _ h => .inl h)) (fun k hk => by have := hO k hk; simpa [World.putObj] using this) ((World.putObj_heap_other (by omega)).trans hd)⟩

end Go.Proofs.Ytlcghmfkgblheaa.F

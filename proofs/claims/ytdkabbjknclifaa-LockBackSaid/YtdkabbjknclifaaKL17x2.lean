/- Part 2 of L17: what the functions reckon, step by step, and plain laws. No condition. -/
import Derived.Test.YtdkabbjknclifaaKL17x1
section
namespace Go.Proofs.Ytdkabbjknclifaa.F
open Go.RowKit
theorem wpIn_rangeFunc_plain {α : Type} {P : Program} {n : Nat} {g : Operand} {p q : Tmp} {assign body : Code} {Q : Exit → Act → World → Prop} {a : Act} {w : World} (h1 : 1 ≤ n)
    {gf : Nat} {lb : Array Value} (hg : a.eval g = .func (.func gf) #[] lb) (eg : ∀ args w, (callFunc gf args).run P w = .ok (.enter gf args) w)
    (enc enc2 : α → Value) (keep : Nat → Prop) (hkeep : ∀ k, keep k → k < w.heap.size) (N : Nat) (res : List α)
    (hseq : ∀ W, Below w.heap.size w W → W.heap.size = w.heap.size + 2 → IterPlain (n - 1) P gf lb enc enc2 keep N res W)
    (I : List α → World → Prop)
    (hI : ∀ pre A B, I pre A → w.heap.size ≤ A.heap.size → Turned (fun k => k = w.heap.size ∨ k = w.heap.size + 1) A B → (∃ o, B.heap[w.heap.size + 1]? = some (.loop o)) → (∃ o, B.heap[w.heap.size]? = some (.deferred o)) → I pre B)
    (h0 : I [] w)
    (hround : ∀ pre x W, I pre W → pre.length ≤ N → w.heap.size + 2 ≤ W.heap.size → (∃ o, W.heap[w.heap.size + 1]? = some (.loop o)) → (∃ o, W.heap[w.heap.size]? = some (.deferred o)) →
      assign.wpIn (Fence.wide.inRound (w.heap.size + 1)) (n - 1 - 1) P (Exit.then (fun a1 W1 => W1.heap[w.heap.size + 1]? = W.heap[w.heap.size + 1]? ∧ W1.heap[w.heap.size]? = W.heap[w.heap.size]? ∧
        ∀ W2, Turned (fun k => k = w.heap.size + 1) W1 W2 → W2.heap.size = W1.heap.size → (∃ o, W2.heap[w.heap.size + 1]? = some (.loop o)) → body.wpIn (Fence.wide.inRound (w.heap.size + 1)) (n - 1 - 1) P (plainPost w.heap.size (w.heap.size + 1) keep I (pre ++ [x]) W W2) a1 W2) (fun _ _ _ => False))
        { tmps := (a.tmps.setIfInBounds p (enc x)).setIfInBounds q (enc2 x), defers := [] } W)
    (hdone : ∀ W, I res W → w.heap.size + 2 ≤ W.heap.size → W.heap[w.heap.size]? = some (.deferred (some [])) → Q .normal { a with defers := { target := .collected w.heap.size, args := #[] } :: a.defers } W) :
    (Code.rangeFunc g #[p, q] assign body).wpIn Fence.wide n P Q a w := by
  refine wpIn_rangeFunc ?_
  intro fn hfn
  obtain ⟨rec, hrec⟩ : ∃ rec : LoopState → Option Code → Loop, rec = fun st pe => { state := st, pending := pe, fn, tmps := a.tmps, params := #[p, q], assign, body, defers := w.heap.size } := ⟨_, rfl⟩
  obtain ⟨W1, hW1⟩ : ∃ W1, (w.alloc (.deferred (some []))).alloc (.loop (rec .ready none)) = W1 := ⟨_, rfl⟩
  have hs1 : W1.heap.size = w.heap.size + 2 := by rw [← hW1]; simp
  have hL1 : W1.heap[w.heap.size + 1]? = some (.loop (rec .ready none)) := by
    rw [← hW1]; have := World.alloc_heap_new (w.alloc (.deferred (some []))) (.loop (rec .ready none)); rwa [World.size_alloc] at this
  have hD1 : W1.heap[w.heap.size]? = some (.deferred (some [])) := by
    rw [← hW1]; exact (Below.heap_alloc _ _ _ (by simp)).trans (World.alloc_heap_new w _)
  have hb1 : Below w.heap.size w W1 := by
    rw [← hW1]; exact ((Below.refl _ w).alloc (Nat.le_refl _) _).alloc (by simp) _
  refine ⟨w.heap.size + 1, [{ target := .collected w.heap.size, args := #[] }], W1, { target := .fn (.func gf) lb, args := #[.func (.yield (w.heap.size + 1)) #[] #[]] }, W1, gf,
    #[.func (.yield (w.heap.size + 1)) #[] #[]] ++ lb, W1, ?_, ?_, fun _ _ => trivial, ?_, fun _ => h1, ?_⟩
  · rw [← hW1, hrec]; exact run_enterLoop_outer _ _ _ _ _
  · simp only [resolve, hg]
    simp [go_sem]
  · simp [invoke, go_sem, eg]
  · refine (hseq W1 hb1 hs1 (w.heap.size + 1)
      (fun pre W => I pre W ∧ w.heap.size + 2 ≤ W.heap.size ∧ W.heap[w.heap.size + 1]? = some (.loop (rec .ready none)) ∧ W.heap[w.heap.size]? = some (.deferred (some [])))
      ?_ ⟨hI _ _ _ h0 (Nat.le_refl _) (.of_below hb1) ⟨_, hL1⟩ ⟨_, hD1⟩, by omega, hL1, hD1⟩).mono ?_
    · rintro pre x W ⟨hi, hz, hl, hd⟩ hlen
      have hy := run_yield (P := P) (args := #[enc x, enc2 x]) hl (by rw [hrec]; rfl)
      rw [hrec] at hy
      refine ⟨fn, _, assign, body, hy, roundIn_of_wpIn hfn ?_⟩
      have hr := hround pre x W hi hlen hz ⟨_, hl⟩ ⟨_, hd⟩
      refine wpIn_mono (by simpa using hr) ?_
      rintro e a1 Wa hp
      cases e with
      | normal =>
        obtain ⟨hla, hda, hbody⟩ := hp
        have hl' := hla.trans hl
        refine ⟨_, run_beginRound hl' (by rw [hrec]), ?_⟩
        have hlt : w.heap.size + 1 < Wa.heap.size := (Array.getElem?_eq_some_iff.1 hl').1
        refine wpIn_mono (hbody _ (Turned.putObj _ _ _) (by simp [World.putObj]) _ (World.putObj_heap_same hlt)) ?_
        rintro e a3 W3 hp
        cases e with
        | normal =>
          obtain ⟨hl3, hd3, hi3, ht3⟩ := hp
          have hl4 : W3.heap[w.heap.size + 1]? = some (.loop { rec .ready none with state := .busy }) := hl3.trans (World.putObj_heap_same hlt)
          have hd4 : W3.heap[w.heap.size]? = some (.deferred (some [])) := hd3.trans ((World.putObj_heap_other (by omega)).trans (hda.trans hd))
          have hend := run_endRound (P := P) none hl4
          rw [hrec] at hend
          have hz3 := ht3.size
          refine ⟨_, _, hend, rfl, ⟨hI _ _ _ hi3 (by omega) ((Turned.putObj _ _ _).mono (fun k h => .inr h)) ⟨_, World.putObj_heap_same (Array.getElem?_eq_some_iff.1 hl4).1⟩ ⟨_, (World.putObj_heap_other (by omega)).trans hd4⟩, ?_, ?_, (World.putObj_heap_other (by omega)).trans hd4⟩, ht3.trans ((Turned.putObj _ _ _).mono fun k h => ?_), fun k h => ?_⟩
          · simp [World.putObj]; omega
          · rw [hrec]; exact World.putObj_heap_same (Array.getElem?_eq_some_iff.1 hl4).1
          · subst h
            intro h
            have := hkeep _ h; omega
          · have := hkeep _ h; omega
        | _ => exact hp.elim
      | _ => exact hp.elim
    · rintro e W2 ⟨⟨v, rfl⟩, hi, hz, hl, hd⟩
      refine ⟨none, _, by have := run_endLoop (P := P) hl (by rw [hrec]; simp); rw [hrec] at this; exact this, hdone _ (hI _ _ _ hi (by omega) ((Turned.putObj _ _ _).mono (fun k h => .inr h)) ⟨_, World.putObj_heap_same (Array.getElem?_eq_some_iff.1 hl).1⟩ ⟨_, (World.putObj_heap_other (by omega)).trans hd⟩) (by simpa [World.putObj] using hz) ((World.putObj_heap_other (by omega)).trans hd)⟩
end Go.Proofs.Ytdkabbjknclifaa.F
end
section
namespace Go.Proofs.Ytdkabbjknclifaa.F
open Go.RowKit Go.Shelf Go.Proofs.YtdkabbjknclifaaW.PrintWords Go.Proofs.YtdkabbjknclifaaW.PrintLast Go.Proofs.YtdkabbjknclifaaW.PrintMore
attribute [local go_sem] Oper.semAt_some Instr.field asAgg
set_option linter.unusedVariables false
set_option linter.unusedSimpArgs false
theorem con_plain (n kb : Nat) (A : Option Addr) (c : Nat) (b : Bool) (ls : List Bool) (Wb W : World)
    (hkb : W.heap[kb]? = some (.cells #[.bool b, .slice A ls.length c] 64 (0, 0))) (hr : Kd.C Kd.bool Wb A ls.length ls) (hlen : ls.length ≤ 64) (hW : Below Wb.heap.size Wb W) :
    IterPlain n Try.prog 52 #[.pointer (some ⟨kb, 0, none⟩)] (fun x : Int × Bool => .int .i64 x.1) (fun x => .bool x.2) (fun k => k < Wb.heap.size ∨ k = kb) 64 (contactsOf b ls) W := by
  intro l J hY h0
  refine con_in n l kb A c b ls Wb W hkb hr hlen J (fun pre x W1 hJ1 hlen1 => ?_) hW h0
  refine (hY pre x W1 hJ1 hlen1).mono ?_
  rintro e W' ⟨he, hJ', ht, hz⟩
  have hk' : ∀ k, (k < Wb.heap.size ∨ k = kb) → W'.heap[k]? = W1.heap[k]? := fun k h => ht.block k (hz k h) (fun hn => hn h)
  exact ⟨he, hJ', ⟨ht.os, ht.tape, ht.output, ht.size, fun k h => hk' k (.inl h)⟩, hk' kb (.inr rfl)⟩
end Go.Proofs.Ytdkabbjknclifaa.F
end
section
namespace Go.Proofs.Ytdkabbjknclifaa.F
open Go.RowKit Go.Shelf Go.Proofs.YtdkabbjknclifaaW.PrintWords Go.Proofs.YtdkabbjknclifaaW.PrintLast Go.Proofs.YtdkabbjknclifaaW.PrintMore
attribute [local go_sem] Oper.semAt_some Instr.field asAgg
set_option linter.unusedVariables false
set_option linter.unusedSimpArgs false
theorem builder_move {T e : TypeId} {B b : Nat} {bs : List Value} {W W' : World} (h : Lib.IsBuilderF T e B b bs W) (hm : ∀ (k : Nat) (cs : Array Value) (t : TypeId) (fr : Nat × Nat), W.heap[k]? = some (Obj.cells cs t fr) → W'.heap[k]? = some (Obj.cells cs t fr)) : Lib.IsBuilderF T e B b bs W' := by
  have go : ∀ p, Lib.BuilderAtF T e B b p bs W → Lib.BuilderAtF T e B b p bs W' := by
    rintro p ⟨hB, v, hb, ⟨hl, hv⟩, hne⟩
    refine ⟨hB, v, hm _ _ _ _ hb, ⟨hl, ?_⟩, hne⟩
    rcases hv with hv | ⟨g, cap, cur, fz, e1, e2, e3, e4⟩
    · exact .inl hv
    · exact .inr ⟨g, cap, cur, fz, e1, e2, hm _ _ _ _ e3, e4⟩
  exact h.imp (go _) (go _)
end Go.Proofs.Ytdkabbjknclifaa.F
end
section
namespace Go.Proofs.Ytdkabbjknclifaa.F
open Go.RowKit Go.Shelf Go.Proofs.YtdkabbjknclifaaW.PrintWords Go.Proofs.YtdkabbjknclifaaW.PrintLast Go.Proofs.YtdkabbjknclifaaW.PrintMore
attribute [local go_sem] Oper.semAt_some Instr.field asAgg
set_option linter.unusedVariables false
set_option linter.unusedSimpArgs false
/-- Neither of the two blocks of the loop is a row of cells. -/
def NoRow (z : Nat) (W : World) : Prop := ∀ (k : Nat) (cs : Array Value) (t : TypeId) (fr : Nat × Nat), (k = z ∨ k = z + 1) → W.heap[k]? ≠ some (Obj.cells cs t fr)
end Go.Proofs.Ytdkabbjknclifaa.F
end
section
namespace Go.Proofs.Ytdkabbjknclifaa.F
open Go.RowKit Go.Shelf Go.Proofs.YtdkabbjknclifaaW.PrintWords Go.Proofs.YtdkabbjknclifaaW.PrintLast Go.Proofs.YtdkabbjknclifaaW.PrintMore
attribute [local go_sem] Oper.semAt_some Instr.field asAgg
set_option linter.unusedVariables false
set_option linter.unusedSimpArgs false
theorem NoRow.of {z : Nat} {W : World} (h1 : ∃ o, W.heap[z + 1]? = some (.loop o)) (h2 : ∃ o, W.heap[z]? = some (.deferred o)) : NoRow z W := by
  obtain ⟨o, h1⟩ := h1
  obtain ⟨o', h2⟩ := h2
  rintro k cs t fr (rfl | rfl) h
  · rw [h2] at h; cases h
  · rw [h1] at h; cases h
end Go.Proofs.Ytdkabbjknclifaa.F
end
section
namespace Go.Proofs.Ytdkabbjknclifaa.F
open Go.RowKit Go.Shelf Go.Proofs.YtdkabbjknclifaaW.PrintWords Go.Proofs.YtdkabbjknclifaaW.PrintLast Go.Proofs.YtdkabbjknclifaaW.PrintMore
attribute [local go_sem] Oper.semAt_some Instr.field asAgg
set_option linter.unusedVariables false
set_option linter.unusedSimpArgs false
theorem NoRow.builder {z : Nat} {T e : TypeId} {B b : Nat} {bs : List Value} {A W : World} (hn : NoRow z A) (ht : Turned (fun k => k = z ∨ k = z + 1) A W) (h : Lib.IsBuilderF T e B b bs A) : Lib.IsBuilderF T e B b bs W :=
  builder_move h (fun k cs t fr hk => (ht.block k (blk_lt hk) (fun hz => hn k cs t fr hz hk)).trans hk)
end Go.Proofs.Ytdkabbjknclifaa.F
end
section
namespace Go.Proofs.Ytdkabbjknclifaa.F
open Go.RowKit Go.Shelf Go.Proofs.YtdkabbjknclifaaW.PrintWords Go.Proofs.YtdkabbjknclifaaW.PrintLast Go.Proofs.YtdkabbjknclifaaW.PrintMore
attribute [local go_sem] Oper.semAt_some Instr.field asAgg
set_option linter.unusedVariables false
set_option linter.unusedSimpArgs false
theorem writOf_snoc (pre : List (Int × Bool)) (x : Int × Bool) : writOf (pre ++ [x]) = writStep (writOf pre) x := by simp [writOf]
end Go.Proofs.Ytdkabbjknclifaa.F
end
section
namespace Go.Proofs.Ytdkabbjknclifaa.F
open Go.RowKit Go.Shelf Go.Proofs.YtdkabbjknclifaaW.PrintWords Go.Proofs.YtdkabbjknclifaaW.PrintLast Go.Proofs.YtdkabbjknclifaaW.PrintMore
attribute [local go_sem] Oper.semAt_some Instr.field asAgg
set_option linter.unusedVariables false
set_option linter.unusedSimpArgs false
theorem writOf_length (pre : List (Int × Bool)) : (writOf pre).length ≤ 2 * pre.length := by
  suffices h : ∀ (l : List (Int × Bool)) (acc : List UInt8), (l.foldl writStep acc).length ≤ acc.length + 2 * l.length by simpa [writOf] using h pre []
  intro l
  induction l with
  | nil => intro acc; simp
  | cons x r ih =>
    intro acc
    have h1 := ih (writStep acc x)
    have h2 : (writStep acc x).length ≤ acc.length + 2 := by unfold writStep; split <;> simp
    simp only [List.foldl_cons, List.length_cons]; omega
end Go.Proofs.Ytdkabbjknclifaa.F
end
section
namespace Go.Proofs.Ytdkabbjknclifaa.F
open Go.RowKit Go.Shelf Go.Proofs.YtdkabbjknclifaaW.PrintWords Go.Proofs.YtdkabbjknclifaaW.PrintLast Go.Proofs.YtdkabbjknclifaaW.PrintMore
attribute [local go_sem] Oper.semAt_some Instr.field asAgg
set_option linter.unusedVariables false
set_option linter.unusedSimpArgs false
theorem after_round {z b kb N : Nat} {cs : Array Value} {W W2 W3 : World} (hb : Below b W2 W3) (hk : Lib.OthersKept 5 (some b) W2 W3) (ht : Turned (fun k => k = z + 1) W W2)
    (hkb : W2.heap[kb]? = some (Obj.cells cs 64 (0, 0))) (hne : kb ≠ b) (hN : N ≤ b) (hz : N ≤ z) (hkz : kb ≤ z) : Turned (fun k => ¬ (k < N ∨ k = kb)) W W3 := by
  refine ⟨hb.os.trans ht.os, hb.tape.trans ht.tape, hb.output.trans ht.output, Nat.le_trans ht.size hb.size, fun k hlt hn => ?_⟩
  rcases Decidable.byContradiction (fun h => hn h) with h | h
  · exact (hb.block k (by omega)).trans (ht.block k hlt (by omega))
  · subst h
    exact (hk k _ hkb (fun e => hne (by injection e)) (fun c fz e => by injection e with _ e2; cases e2)).trans (hkb.symm.trans (ht.block k hlt (by omega)))
end Go.Proofs.Ytdkabbjknclifaa.F
end
section
namespace Go.Proofs.Ytdkabbjknclifaa.F
open Go.RowKit Go.Shelf Go.Proofs.YtdkabbjknclifaaW.PrintWords Go.Proofs.YtdkabbjknclifaaW.PrintLast Go.Proofs.YtdkabbjknclifaaW.PrintMore
attribute [local go_sem] Oper.semAt_some Instr.field asAgg
set_option linter.unusedVariables false
set_option linter.unusedSimpArgs false
theorem round_end {z b kb : Nat} {cs : Array Value} {w W W2 W3 : World} {bs : List Value} {xs : List (Int × Bool)} (hi : Lib.IsBuilderF 72 5 b b bs W3) (hb : Below b W2 W3) (hk : Lib.OthersKept 5 (some b) W2 W3)
    (ht : Turned (fun k => k = z + 1) W W2) (hd : ∃ o, W2.heap[z]? = some (Obj.deferred o)) (hl : ∃ o, W2.heap[z + 1]? = some (Obj.loop o)) (hkb : W2.heap[kb]? = some (Obj.cells cs 64 (0, 0))) (hw : Below w.heap.size w W2)
    (hne : b < kb) (hN : w.heap.size ≤ b) (hz : w.heap.size ≤ z) (hkz : kb < z) (he : Lib.IsBuilderF 72 5 b b (Lib.byteCells (writOf xs)) W3) :
    W3.heap[z + 1]? = W2.heap[z + 1]? ∧ W3.heap[z]? = W2.heap[z]? ∧ (Lib.IsBuilderF 72 5 b b (Lib.byteCells (writOf xs)) W3 ∧ Below w.heap.size w W3 ∧ NoRow z W3 ∧ W3.heap[kb]? = some (Obj.cells cs 64 (0, 0))) ∧ Turned (fun k => ¬ (k < w.heap.size ∨ k = kb)) W W3 := by
  obtain ⟨o, hd⟩ := hd
  obtain ⟨o', hl⟩ := hl
  have h1 := hk _ _ hl (by intro e; injection e; omega) (by intro c fz e; cases e)
  have h2 := hk _ _ hd (by intro e; injection e; omega) (by intro c fz e; cases e)
  have h3 := hk _ _ hkb (by intro e; injection e; omega) (by intro c fz e; injection e with _ e2; cases e2)
  exact ⟨h1.trans hl.symm, h2.trans hd.symm, ⟨he, hw.trans (hb.mono hN), .of ⟨_, h1⟩ ⟨_, h2⟩, h3⟩, after_round hb hk ht hkb (by omega) hN hz (by omega)⟩
end Go.Proofs.Ytdkabbjknclifaa.F
end
section
namespace Go.Proofs.Ytdkabbjknclifaa.F
open Go.RowKit Go.Shelf Go.Proofs.YtdkabbjknclifaaW.PrintWords Go.Proofs.YtdkabbjknclifaaW.PrintLast Go.Proofs.YtdkabbjknclifaaW.PrintMore
attribute [local go_sem] Oper.semAt_some Instr.field asAgg
set_option linter.unusedVariables false
set_option linter.unusedSimpArgs false
set_option maxHeartbeats 4000000 in
set_option maxRecDepth 100000 in
theorem lock_Text.calls (a0_0 : Bool) (A0_1 : Option Addr) (c0_1 : Nat) (l0_1 : List Bool) (r1 : ByteArray) (r2 : Int) (w : World) (hr0_1 : Kd.C Kd.bool w A0_1 l0_1.length l0_1) (hc0_1 : l0_1.length ≤ c0_1) (h : lock_Text.f a0_0 l0_1 = some (r1, r2)) :
    Calls Try.prog 21 #[.agg #[.bool a0_0, .slice A0_1 l0_1.length c0_1]] w fun e w' => e = .returned (.tuple #[.string r1, .int .i64 r2]) ∧ Below w.heap.size w w' := by
  have hu25 := Try.underlying25
  have hu64 := Try.underlying64
  have hu66 := Try.underlying66
  have hu72 := Try.underlying72
  unfold lock_Text.f at h
  obtain ⟨e, he, h⟩ := Option.bind_eq_some_iff.mp h
  have HE := Aside0.mk he
  have HR := Aside0.mk hr0_1
  clear he hr0_1
  refine (callsIn_wide (n := 4)).1 ?_
  refine callsIn_of_wp_marks Try.func21 rfl trivial ?_ rfl
  simp only [Try.ntmps21, List.size_toArray, List.length_cons, List.length_nil, Nat.reduceAdd, Nat.reduceSub, Array.replicate_succ, Array.replicate_zero, List.push_toArray, List.append_toArray, List.nil_append, List.cons_append]
  by_cases c : e = 0
  · subst c
    rw [if_pos rfl] at h
    by_cases hl : l0_1.length ≤ 64
    · rw [if_pos hl] at h
      simp only [Option.some.injEq, Prod.mk.injEq] at h
      obtain ⟨rfl, rfl⟩ := h
      have HL := Aside0.mk hl
      clear hl
      gi_wp2_with (first
        | (refine ⟨trivial, ?_⟩; refine (callsIn_wide.2 (lock_Check.calls 4096 a0_0 A0_1 c0_1 l0_1 0 _ ?hr hc0_1 HE.out)).mono ?_; (case hr => exact Kd.C_below HR.out ((Below.refl _ w).alloc (Nat.le_refl _) _)); rintro e w1 ⟨rfl, hbw⟩; have HBW := Aside0.mk (boxed_below hbw); have HKB := Aside0.mk (blk_below (blk_new w _) hbw); obtain ⟨q0, q1, q2, q3⟩ := con_cells HKB.out; have qlt := blk_lt HKB.out; clear hbw)
        | (refine ⟨trivial, ?_⟩; refine (callsIn_wide.2 (of_calls _ _ _ _ _)).mono ?_; rintro e wo ⟨rfl, hbo⟩; have HBO := Aside0.mk hbo; clear hbo)
        | (refine ⟨trivial, ?_⟩; refine (contacts_in 3 _ _ _ rfl rfl).mono ?_; rintro e w3 ⟨rfl, rfl⟩))
      obtain ⟨Wl, hWl⟩ : ∃ Wl, wo.alloc (Obj.cells #[Value.bool a0_0, Value.slice A0_1 l0_1.length c0_1] 64) = Wl := ⟨_, rfl⟩
      have hso := HBO.out.size
      rw [World.size_alloc] at hso
      have hsw := HBW.out.size
      have hzl : Wl.heap.size = wo.heap.size + 1 := by rw [← hWl]; simp
      have HFR := Lib.IsBuilderF.of (Lib.fresh_isBuilder 72 5 w1)
      have HIL : Lib.IsBuilderF 72 5 w1.heap.size w1.heap.size [] Wl := builder_move (builder_move HFR (fun k cs t fr hk => blk_below hk HBO.out)) (fun k cs t fr hk => by rw [← hWl]; exact blk_alloc hk _)
      have hbl : Below w1.heap.size w1 Wl := by
        rw [← hWl]; exact (((Below.refl _ w1).alloc (Nat.le_refl _) _).trans (HBO.out.mono (by simp))).alloc (by omega) _
      have hKB : Wl.heap[wo.heap.size]? = some (.cells #[.bool a0_0, .slice A0_1 l0_1.length c0_1] 64 (0, 0)) := by rw [← hWl]; exact blk_new wo _
      have HB0 := Aside0.mk (HBW.out.trans (hbl.mono hsw))
      have HKL := Aside0.mk hKB
      have HILA := Aside0.mk HIL
      rw [hWl]
      clear q0 q1 q2 q3 qlt hbl hKB HIL HFR
      refine wpIn_rangeFunc_plain (by decide) (gf := 52) (lb := #[.pointer (some ⟨wo.heap.size, 0, none⟩)]) rfl (enters_of Try.func52 (by kernel_rfl) rfl)
        (fun x : Int × Bool => .int .i64 x.1) (fun x => .bool x.2) (fun k => k < w.heap.size ∨ k = wo.heap.size) (fun k h => by omega) 64 (contactsOf a0_0 l0_1)
        (fun W hW hz => con_plain 3 _ A0_1 c0_1 a0_0 l0_1 w W ((hW.block _ (by omega)).trans HKL.out) HR.out HL.out (HB0.out.trans (hW.mono (by omega))))
        (fun pre W => Lib.IsBuilderF 72 5 w1.heap.size w1.heap.size (Lib.byteCells (writOf pre)) W ∧ Below w.heap.size w W ∧ NoRow Wl.heap.size W ∧ W.heap[wo.heap.size]? = some (Obj.cells #[.bool a0_0, .slice A0_1 l0_1.length c0_1] 64 (0, 0)))
        ?inv ⟨HILA.out, HB0.out, ?nr, HKL.out⟩ ?round ?done
      case nr =>
        rintro k cs t fr hk h
        have := blk_lt h
        omega
      case inv =>
        rintro pre A B ⟨hi, hb, hn, hkb⟩ hA ht h1 h2
        exact ⟨hn.builder ht hi, hb.trans (ht.below hb.size (fun k hk h => by omega)), .of h1 h2, (ht.block _ (blk_lt hkb) (by omega)).trans hkb⟩
      case round =>
        rintro pre x W ⟨hi, hb, hn, hkb⟩ hlen hz hlo hdo
        gi_wp2
        refine ⟨trivial, trivial, fun W2 ht2 hs2 hl2 => ?_⟩
        have hi2 : Lib.IsBuilderF 72 5 w1.heap.size w1.heap.size (Lib.byteCells (writOf pre)) W2 := hn.builder (ht2.mono fun k h => .inr h) hi
        have hd2 : ∃ o, W2.heap[Wl.heap.size]? = some (.deferred o) := by
          obtain ⟨o, ho⟩ := hdo
          exact ⟨o, (ht2.block _ (Array.getElem?_eq_some_iff.1 ho).1 (by omega)).trans ho⟩
        have HKB2 := Aside0.mk ((ht2.block _ (blk_lt hkb) (by omega)).trans hkb)
        have HBW2 := Aside0.mk (hb.trans (ht2.below hb.size (fun k hk h => by omega)))
        have HI := Aside0.mk hi2
        have HB := Aside0.mk (Below.refl w1.heap.size W2)
        have HK := Aside0.mk (Lib.OthersKept.refl 5 (some w1.heap.size) W2)
        have HT := Aside0.mk ht2
        have HD := Aside0.mk hd2
        have HLO := Aside0.mk hl2
        have hwl := writOf_length pre
        have hz2 : Wl.heap.size + 2 ≤ W2.heap.size := by omega
        clear hi hb hn hkb hi2 ht2 hlo hdo hd2 hl2
        obtain ⟨x1, x2⟩ := x
        by_cases c0 : x1 = 0
        · have d0 : (x1 == 0) = true := beq_iff_eq.mpr c0
          cases x2 with
          | true =>
            gi_wp2_with (refine ⟨trivial, ?_⟩; refine (CallsIn.inRound _ (callsIn_wide.2 (writeByte w1.heap.size w1.heap.size _ _ _ HI.out (by simp [Lib.byteCells]; omega) (by have := HB.out.size; omega)))).mono ?_; rintro e W4 ⟨rfl, hbt, hb, hk⟩; have HI1 := Aside0.mk (show Lib.IsBuilderF 72 5 w1.heap.size w1.heap.size _ W4 from .inr hbt); have HB1 := Aside0.mk (HB.out.trans hb); have HK1 := Aside0.mk (HK.out.trans hk); clear HI HB HK hbt hb hk; have HI := HI1; have HB := HB1; have HK := HK1; clear HI1 HB1 HK1)
            refine (round_end HI.out HB.out HK.out HT.out HD.out HLO.out HKB2.out HBW2.out (by omega) (by omega) (by omega) (by omega)) ?_
            rw [writOf_snoc]; simpa [writStep, c0, Lib.byteCells, List.append_assoc] using HI.out
          | false =>
            gi_wp2_with (refine ⟨trivial, ?_⟩; refine (CallsIn.inRound _ (callsIn_wide.2 (writeByte w1.heap.size w1.heap.size _ _ _ HI.out (by simp [Lib.byteCells]; omega) (by have := HB.out.size; omega)))).mono ?_; rintro e W4 ⟨rfl, hbt, hb, hk⟩; have HI1 := Aside0.mk (show Lib.IsBuilderF 72 5 w1.heap.size w1.heap.size _ W4 from .inr hbt); have HB1 := Aside0.mk (HB.out.trans hb); have HK1 := Aside0.mk (HK.out.trans hk); clear HI HB HK hbt hb hk; have HI := HI1; have HB := HB1; have HK := HK1; clear HI1 HB1 HK1)
            refine (round_end HI.out HB.out HK.out HT.out HD.out HLO.out HKB2.out HBW2.out (by omega) (by omega) (by omega) (by omega)) ?_
            rw [writOf_snoc]; simpa [writStep, c0, Lib.byteCells, List.append_assoc] using HI.out
        · have d0 : (x1 == 0) = false := beq_eq_false_iff_ne.mpr c0
          cases x2 with
          | true =>
            gi_wp2_with (refine ⟨trivial, ?_⟩; refine (CallsIn.inRound _ (callsIn_wide.2 (writeByte w1.heap.size w1.heap.size _ _ _ HI.out (by simp [Lib.byteCells]; omega) (by have := HB.out.size; omega)))).mono ?_; rintro e W4 ⟨rfl, hbt, hb, hk⟩; have HI1 := Aside0.mk (show Lib.IsBuilderF 72 5 w1.heap.size w1.heap.size _ W4 from .inr hbt); have HB1 := Aside0.mk (HB.out.trans hb); have HK1 := Aside0.mk (HK.out.trans hk); clear HI HB HK hbt hb hk; have HI := HI1; have HB := HB1; have HK := HK1; clear HI1 HB1 HK1)
            refine (round_end HI.out HB.out HK.out HT.out HD.out HLO.out HKB2.out HBW2.out (by omega) (by omega) (by omega) (by omega)) ?_
            rw [writOf_snoc]; simpa [writStep, c0, Lib.byteCells, List.append_assoc] using HI.out
          | false =>
            gi_wp2_with (refine ⟨trivial, ?_⟩; refine (CallsIn.inRound _ (callsIn_wide.2 (writeByte w1.heap.size w1.heap.size _ _ _ HI.out (by simp [Lib.byteCells]; omega) (by have := HB.out.size; omega)))).mono ?_; rintro e W4 ⟨rfl, hbt, hb, hk⟩; have HI1 := Aside0.mk (show Lib.IsBuilderF 72 5 w1.heap.size w1.heap.size _ W4 from .inr hbt); have HB1 := Aside0.mk (HB.out.trans hb); have HK1 := Aside0.mk (HK.out.trans hk); clear HI HB HK hbt hb hk; have HI := HI1; have HB := HB1; have HK := HK1; clear HI1 HB1 HK1)
            refine (round_end HI.out HB.out HK.out HT.out HD.out HLO.out HKB2.out HBW2.out (by omega) (by omega) (by omega) (by omega)) ?_
            rw [writOf_snoc]; simpa [writStep, c0, Lib.byteCells, List.append_assoc] using HI.out
      case done =>
        rintro W ⟨hi, hb, hn, hkb⟩ hz hD
        have HI := Aside0.mk hi
        have HBD := Aside0.mk hb
        have HDD := Aside0.mk hD
        clear hi hb hn hkb hD
        gi_wp2_with (refine ⟨trivial, ?_⟩; refine (callsIn_wide.2 (Try.Builder_String_any_k w1.heap.size w1.heap.size _ _ HI.out (by omega))).mono ?_; rintro e W4 ⟨rfl, hbt, hb, hk⟩; have HB4 := Aside0.mk hb; have HK4 := Aside0.mk hk; clear hbt hb hk)
        have hD4 := HK4.out _ _ HDD.out (by intro e; injection e; omega) (by intro c fz e; cases e)
        rw [hzl] at hD4
        have hb4 := HBD.out.trans (HB4.out.mono hsw)
        refine ⟨by simp, .inl ⟨_, _, rfl, run_takeDeferred hD4, ?_⟩⟩
        exact ⟨_, results_tmp2 rfl _ _ _, rfl, hb4.trans ((Turned.putObj W4 _ _).below hb4.size (fun k hk h => by omega))⟩
    · rw [if_neg hl] at h
      cases h
  · rw [if_neg c] at h
    have cb : (e != 0) = true := bne_iff_ne.mpr c
    clear c
    simp only [Option.some.injEq, Prod.mk.injEq] at h
    obtain ⟨rfl, rfl⟩ := h
    gi_wp2_with (refine ⟨trivial, ?_⟩; refine (callsIn_wide.2 (lock_Check.calls 4096 a0_0 A0_1 c0_1 l0_1 e _ ?hr hc0_1 HE.out)).mono ?_; (case hr => exact Kd.C_below HR.out ((Below.refl _ w).alloc (Nat.le_refl _) _)); rintro e w1 ⟨rfl, hbw⟩; have HBW := Aside0.mk (boxed_below hbw); clear hbw)
    exact ⟨_, results_tmp2 rfl _ _ _, rfl, HBW.out⟩

end Go.Proofs.Ytdkabbjknclifaa.F
end
section
namespace Go.Proofs.Ytdkabbjknclifaa.F
open Go.RowKit Go.Shelf Go.Proofs.YtdkabbjknclifaaW.PrintWords Go.Proofs.YtdkabbjknclifaaW.PrintLast Go.Proofs.YtdkabbjknclifaaW.PrintMore
attribute [local go_sem] Oper.semAt_some Instr.field asAgg
set_option linter.unusedVariables false
set_option linter.unusedSimpArgs false
/-- What lies in memory in Parse's loop. -/
def PSt (w W : World) (b : Bool) (v : Value) (s : ByteArray) (i : Nat) : Prop :=
  Below w.heap.size w W ∧ W.heap[w.heap.size]? = some (Obj.cells #[.bool false, .slice none 0 0] 25 (0, 0)) ∧ W.heap[w.heap.size + 1]? = some (Obj.cells #[.int .i64 0, .int .i64 0] 28 (0, 0)) ∧
  W.heap[w.heap.size + 2]? = some (Obj.cells #[.bool b, v] 25 (0, 0)) ∧ W.heap[w.heap.size + 3]? = some (Obj.stringIter s i)
end Go.Proofs.Ytdkabbjknclifaa.F
end
section
namespace Go.Proofs.Ytdkabbjknclifaa.F
open Go.RowKit Go.Shelf Go.Proofs.YtdkabbjknclifaaW.PrintWords Go.Proofs.YtdkabbjknclifaaW.PrintLast Go.Proofs.YtdkabbjknclifaaW.PrintMore
attribute [local go_sem] Oper.semAt_some Instr.field asAgg
set_option linter.unusedVariables false
set_option linter.unusedSimpArgs false
/-- An append to the row of v turns nothing of it. -/
theorem PSt.grown {w W W' : World} {b : Bool} {v : Value} {s : ByteArray} {i : Nat} {acc : List Bool} (h : PSt w W b v s i) (hr : Kd.R Kd.bool 4 W w.heap.size (fun _ => True) v acc) (hg : W.grownBy W' v.ownBlock) (hb : Below w.heap.size w W') : PSt w W' b v s i := by
  have hne : ∀ (k : Nat) (q : Obj), W.heap[k]? = some q → (∀ (c : Array Value) (fr : Nat × Nat), q ≠ Obj.cells c 4 fr) → W'.heap[k]? = some q := by
    intro k q hk hq
    have hlt : k < W.heap.size := (Array.getElem?_eq_some_iff.1 hk).1
    refine (hg.block k hlt ?_).trans hk
    intro e
    obtain ⟨cells, hc⟩ := Kd.R_typed hr k e.symm
    rw [hk] at hc
    exact hq _ _ (Option.some.inj hc)
  exact ⟨hb, hne _ _ h.2.1 (fun c fr e => by injection e with _ e2; cases e2), hne _ _ h.2.2.1 (fun c fr e => by injection e with _ e2; cases e2), hne _ _ h.2.2.2.1 (fun c fr e => by injection e with _ e2; cases e2), hne _ _ h.2.2.2.2 (fun c fr e => by cases e)⟩
end Go.Proofs.Ytdkabbjknclifaa.F
end
section
-- Written by fork.py (this session's program over the kit's print.py). Not trusted: Lean checks it.
namespace Go.Proofs.Ytdkabbjknclifaa.F
open Go.RowKit Go.Proofs.YtdkabbjknclifaaW.PrintWords Go.Proofs.YtdkabbjknclifaaW.PrintLast Go.Proofs.YtdkabbjknclifaaW.PrintMore
attribute [local go_sem] max2_int min2_int max_two min_two max_three min_three max_four min_four
set_option linter.unusedVariables false
set_option linter.unusedSimpArgs false

/-! ### lock_May: function 14 -/
def lock_May.f (a0_0 : Bool) (l0_1 : List Bool) : Option (Bool × Int) := (lock_Missing.f a0_0 l0_1).bind fun bt107 => (if bt107.2 = 0 then (some (((bt107.1.length : Int) == 0), bt107.2)) else (some (false, bt107.2)))
set_option maxHeartbeats 8000000 in
set_option maxRecDepth 100000 in
theorem lock_May.calls (a0_0 : Bool) (A0_1 : Option Addr) (c0_1 : Nat) (l0_1 : List Bool) (r1 : Bool) (r2 : Int) (w : World) (hr0_1 : Kd.C Kd.bool w A0_1 l0_1.length l0_1) (hc0_1 : l0_1.length ≤ c0_1) (h : lock_May.f a0_0 l0_1 = some (r1, r2)) :
    Calls Try.prog 14 #[.agg #[.bool a0_0, .slice A0_1 l0_1.length c0_1]] w fun e w' => e = .returned (.tuple #[.bool r1, .int .i64 r2]) ∧ Below w.heap.size w w' := by
  have hu25 := Try.underlying25
  have HR0_1 := Aside0.mk hr0_1
  have HC0_1 := Aside0.mk hc0_1
  clear hr0_1 hc0_1
  have HB := Aside0.mk (Below.refl w.heap.size w)
  have H : ((lock_Missing.f a0_0 l0_1).bind fun bt107 => (if bt107.2 = 0 then (some (((bt107.1.length : Int) == 0), bt107.2)) else (some (false, bt107.2)))) = some (r1, r2) := h
  clear h
  replace H := Option.bind_eq_some_iff.mp H
  obtain ⟨⟨t107, t110⟩, A20, H⟩ := H
  replace H : (if t110 = 0 then (some (((t107.length : Int) == 0), t110)) else (some (false, t110))) = some (r1, r2) := H
  have A2 := Aside0.mk A20
  clear A20
  by_cases c3 : t110 = 0
  · rw [if_pos c3] at H
    have c3b0 : (t110 == 0) = true := beq_iff_eq.mpr c3
    have c3b1 : (t110 != 0) = false := bne_eq_false_iff_eq.mpr c3
    clear c3
    simp only [Option.some.injEq, Prod.mk.injEq] at H
    obtain ⟨rfl, rfl⟩ := H
    go_enter Try.func14, Try.ntmps14
    go_wp2_with (first | ((with_reducible refine gate_dst (N := 1) rfl ?_); (try (refine gate_guard (by rfl) ?_; dsimp only)); refine box_event ?hg (N := 1) ?hd (cs := #[.bool a0_0, .slice A0_1 l0_1.length c0_1]) (t := 25) ?hr ?_; (case hd => rfl); (case hg => rfl); (case hr => first | (go_simp; done) | (go_simp; rfl)); intro gb106 hg w4 hbox hb; have n0_ := Aside0.mk (below_step (by repeat (first | (with_reducible first | exact HB.out | apply below_alloc | apply pw_below_drewN | apply below_drew1) | exact HB.out)) hb); have n1_ := Aside0.mk (hbox); have n2_ := Aside0.mk ((by rw [hg]; exact (below_size (by repeat (first | (with_reducible first | exact HB.out | apply below_alloc | apply pw_below_drewN | apply below_drew1) | exact HB.out))) : w.heap.size ≤ gb106)); have n3_ := Aside0.mk ((by rw [hg]; exact (below_size (by repeat (first | (with_reducible first | exact HB.out | apply below_alloc | apply pw_below_drewN | apply below_drew1) | exact HB.out))) : w.heap.size ≤ gb106)); clear HB; have HB := n0_; have BK106 := n1_; have GW106 := n2_; have GE106 := n3_; clear n0_ n1_ n2_ n3_; clear hb hbox hg; have hcz5_0 : w4.cell? ⟨gb106, 0, none⟩ = some (.bool a0_0) := (blk_cell BK106.out 0).trans rfl; have hcz5_1 : w4.cell? ⟨gb106, 1, none⟩ = some (.slice A0_1 l0_1.length c0_1) := (blk_cell BK106.out 1).trans rfl; have hfz5_0 := blk_frozen BK106.out 0; have hfz5_1 := blk_frozen BK106.out 1) | ((with_reducible refine gate_callee (f := 16) rfl ?_); refine goesL_ (some 8) rfl rfl Try.func16 (by kernel_rfl) rfl #[.agg #[.bool a0_0, .slice A0_1 l0_1.length c0_1]] rfl (by (try simp only [List.map_toArray, List.map_cons, List.map_nil]); first | done | rfl | (simp only [List.length_drop, List.length_take]; rfl)) ?_; (with_reducible refine (lock_Missing.calls a0_0 _ _ l0_1 t107 t110 _ ?side1 ?side2 A2.out).mono ?_); (case side1 => repeat (first | exact (Kd.C_below HR0_1.out HB.out) | (with_reducible refine Kd.C_alloc ?_ _) | (with_reducible refine Kd.C_drewN ?_ _) | (with_reducible refine Kd.C_drew ?_))); (case side2 => exact HC0_1.out); rintro e w6 ⟨v108, rfl, ho0, hb⟩; refine ⟨_, rfl, ?_⟩; have n0_ := Aside0.mk (Kd.R_lower ho0 (below_size (by repeat (first | (with_reducible first | exact HB.out | apply below_alloc | apply pw_below_drewN | apply below_drew1 | refine below_set ?_ GE106.out) | exact HB.out)))); have n1_ := Aside0.mk (blk_below (g := gb106) (o := .cells #[.bool a0_0, .slice A0_1 l0_1.length c0_1] 25 (0, 0)) (by (with_reducible repeat (first | refine blk_drewN ?_ _ | refine blk_drew ?_ | refine blk_alloc ?_ _)); exact BK106.out) hb); have n2_ := Aside0.mk (below_step (by repeat (first | (with_reducible first | exact HB.out | apply below_alloc | apply pw_below_drewN | apply below_drew1 | refine below_set ?_ GE106.out) | exact HB.out)) hb); clear BK106; clear HB; have HO109 := n0_; have BK106 := n1_; have HB := n2_; clear n0_ n1_ n2_; (try clear hb); (try clear hb2); (try clear hk); (try clear hi); (try clear ho0); obtain ⟨Ao7, co7, eo7⟩ := Kd.R_slice HO109.out; subst eo7))
    all_goals go_ret2
    all_goals exact ⟨by first | rfl | (simp [errW_none, errW_some] <;> rfl) | (simp [*, errW_none, errW_some] <;> rfl), by repeat (first | (with_reducible first | exact HB.out | apply below_alloc | apply pw_below_drewN | apply below_drew1 | refine below_set ?_ GE106.out) | exact HB.out)⟩
  · rw [if_neg c3] at H
    have c3b0 : (t110 == 0) = false := beq_eq_false_iff_ne.mpr c3
    have c3b1 : (t110 != 0) = true := bne_iff_ne.mpr c3
    simp only [Option.some.injEq, Prod.mk.injEq] at H
    obtain ⟨rfl, rfl⟩ := H
    go_enter Try.func14, Try.ntmps14
    go_wp2_with (first | ((with_reducible refine gate_dst (N := 1) rfl ?_); (try (refine gate_guard (by rfl) ?_; dsimp only)); refine box_event ?hg (N := 1) ?hd (cs := #[.bool a0_0, .slice A0_1 l0_1.length c0_1]) (t := 25) ?hr ?_; (case hd => rfl); (case hg => rfl); (case hr => first | (go_simp; done) | (go_simp; rfl)); intro gb106 hg w8 hbox hb; have n0_ := Aside0.mk (below_step (by repeat (first | (with_reducible first | exact HB.out | apply below_alloc | apply pw_below_drewN | apply below_drew1) | exact HB.out)) hb); have n1_ := Aside0.mk (hbox); have n2_ := Aside0.mk ((by rw [hg]; exact (below_size (by repeat (first | (with_reducible first | exact HB.out | apply below_alloc | apply pw_below_drewN | apply below_drew1) | exact HB.out))) : w.heap.size ≤ gb106)); have n3_ := Aside0.mk ((by rw [hg]; exact (below_size (by repeat (first | (with_reducible first | exact HB.out | apply below_alloc | apply pw_below_drewN | apply below_drew1) | exact HB.out))) : w.heap.size ≤ gb106)); clear HB; have HB := n0_; have BK106 := n1_; have GW106 := n2_; have GE106 := n3_; clear n0_ n1_ n2_ n3_; clear hb hbox hg; have hcz9_0 : w8.cell? ⟨gb106, 0, none⟩ = some (.bool a0_0) := (blk_cell BK106.out 0).trans rfl; have hcz9_1 : w8.cell? ⟨gb106, 1, none⟩ = some (.slice A0_1 l0_1.length c0_1) := (blk_cell BK106.out 1).trans rfl; have hfz9_0 := blk_frozen BK106.out 0; have hfz9_1 := blk_frozen BK106.out 1) | ((with_reducible refine gate_callee (f := 16) rfl ?_); refine goesL_ (some 8) rfl rfl Try.func16 (by kernel_rfl) rfl #[.agg #[.bool a0_0, .slice A0_1 l0_1.length c0_1]] rfl (by (try simp only [List.map_toArray, List.map_cons, List.map_nil]); first | done | rfl | (simp only [List.length_drop, List.length_take]; rfl)) ?_; (with_reducible refine (lock_Missing.calls a0_0 _ _ l0_1 t107 t110 _ ?side1 ?side2 A2.out).mono ?_); (case side1 => repeat (first | exact (Kd.C_below HR0_1.out HB.out) | (with_reducible refine Kd.C_alloc ?_ _) | (with_reducible refine Kd.C_drewN ?_ _) | (with_reducible refine Kd.C_drew ?_))); (case side2 => exact HC0_1.out); rintro e w10 ⟨v108, rfl, ho0, hb⟩; refine ⟨_, rfl, ?_⟩; have n0_ := Aside0.mk (Kd.R_lower ho0 (below_size (by repeat (first | (with_reducible first | exact HB.out | apply below_alloc | apply pw_below_drewN | apply below_drew1 | refine below_set ?_ GE106.out) | exact HB.out)))); have n1_ := Aside0.mk (blk_below (g := gb106) (o := .cells #[.bool a0_0, .slice A0_1 l0_1.length c0_1] 25 (0, 0)) (by (with_reducible repeat (first | refine blk_drewN ?_ _ | refine blk_drew ?_ | refine blk_alloc ?_ _)); exact BK106.out) hb); have n2_ := Aside0.mk (below_step (by repeat (first | (with_reducible first | exact HB.out | apply below_alloc | apply pw_below_drewN | apply below_drew1 | refine below_set ?_ GE106.out) | exact HB.out)) hb); clear BK106; clear HB; have HO109 := n0_; have BK106 := n1_; have HB := n2_; clear n0_ n1_ n2_; (try clear hb); (try clear hb2); (try clear hk); (try clear hi); (try clear ho0)))
    all_goals go_ret2
    all_goals exact ⟨by first | rfl | (simp [errW_none, errW_some] <;> rfl) | (simp [*, errW_none, errW_some] <;> rfl), by repeat (first | (with_reducible first | exact HB.out | apply below_alloc | apply pw_below_drewN | apply below_drew1 | refine below_set ?_ GE106.out) | exact HB.out)⟩


end Go.Proofs.Ytdkabbjknclifaa.F
end
section
-- Written by fork.py (this session's program over the kit's print.py). Not trusted: Lean checks it.
namespace Go.Proofs.Ytdkabbjknclifaa.F
open Go.RowKit Go.Proofs.YtdkabbjknclifaaW.PrintWords Go.Proofs.YtdkabbjknclifaaW.PrintLast Go.Proofs.YtdkabbjknclifaaW.PrintMore
attribute [local go_sem] max2_int min2_int max_two min_two max_three min_three max_four min_four
set_option linter.unusedVariables false
set_option linter.unusedSimpArgs false

/-! ### L17_text: function 38 -/
def L17_text.f (a0_0 : Bool) (l0_1 : List Bool) (a1 : ByteArray) : Option (Bool) := (lock_Text.f a0_0 l0_1).bind fun bt123 => (if bt123.1.toList = a1.toList then (some (bt123.2 == 0)) else (some false))
set_option maxHeartbeats 8000000 in
set_option maxRecDepth 100000 in
theorem L17_text.calls (a0_0 : Bool) (A0_1 : Option Addr) (c0_1 : Nat) (l0_1 : List Bool) (a1 : ByteArray) (r : Bool) (w : World) (hr0_1 : Kd.C Kd.bool w A0_1 l0_1.length l0_1) (hc0_1 : l0_1.length ≤ c0_1) (h : L17_text.f a0_0 l0_1 a1 = some r) (ht_ : r = true := by rfl) :
    Calls Try.prog 38 #[.agg #[.bool a0_0, .slice A0_1 l0_1.length c0_1], .string a1] w fun e w' => e = .returned (.bool r) ∧ Below w.heap.size w w' := by
  subst ht_
  have hu25 := Try.underlying25
  have HR0_1 := Aside0.mk hr0_1
  have HC0_1 := Aside0.mk hc0_1
  clear hr0_1 hc0_1
  have HB := Aside0.mk (Below.refl w.heap.size w)
  have H : ((lock_Text.f a0_0 l0_1).bind fun bt123 => (if bt123.1.toList = a1.toList then (some (bt123.2 == 0)) else (some false))) = some true := h
  clear h
  replace H := Option.bind_eq_some_iff.mp H
  obtain ⟨⟨t123, t124⟩, A30, H⟩ := H
  replace H : (if t123.toList = a1.toList then (some (t124 == 0)) else (some false)) = some true := H
  have A3 := Aside0.mk A30
  clear A30
  by_cases c4 : t123.toList = a1.toList
  · rw [if_pos c4] at H
    have c4b0 : (t123.toList == a1.toList) = true := beq_iff_eq.mpr c4
    have c4b1 : (t123.toList != a1.toList) = false := bne_eq_false_iff_eq.mpr c4
    clear c4
    have Hret_ := Option.some.inj H
    clear H
    (try simp only [Bool.and_eq_true] at Hret_)
    go_enter Try.func38, Try.ntmps38
    go_wp2_with (first | ((with_reducible refine gate_dst (N := 2) rfl ?_); refine box_event ?hg (N := 2) ?hd (cs := #[.bool a0_0, .slice A0_1 l0_1.length c0_1]) (t := 25) ?hr ?_; (case hd => rfl); (case hg => rfl); (case hr => first | (go_simp; done) | (go_simp; rfl)); intro gb122 hg w5 hbox hb; have n0_ := Aside0.mk (below_step (by repeat (first | (with_reducible first | exact HB.out | apply below_alloc | apply pw_below_drewN | apply below_drew1) | exact HB.out)) hb); have n1_ := Aside0.mk (hbox); have n2_ := Aside0.mk ((by rw [hg]; exact (below_size (by repeat (first | (with_reducible first | exact HB.out | apply below_alloc | apply pw_below_drewN | apply below_drew1) | exact HB.out))) : w.heap.size ≤ gb122)); have n3_ := Aside0.mk ((by rw [hg]; exact (below_size (by repeat (first | (with_reducible first | exact HB.out | apply below_alloc | apply pw_below_drewN | apply below_drew1) | exact HB.out))) : w.heap.size ≤ gb122)); clear HB; have HB := n0_; have BK122 := n1_; have GW122 := n2_; have GE122 := n3_; clear n0_ n1_ n2_ n3_; clear hb hbox hg; have hcz6_0 : w5.cell? ⟨gb122, 0, none⟩ = some (.bool a0_0) := (blk_cell BK122.out 0).trans rfl; have hcz6_1 : w5.cell? ⟨gb122, 1, none⟩ = some (.slice A0_1 l0_1.length c0_1) := (blk_cell BK122.out 1).trans rfl; have hfz6_0 := blk_frozen BK122.out 0; have hfz6_1 := blk_frozen BK122.out 1) | ((with_reducible refine gate_callee (f := 21) rfl ?_); refine goesL_ (some 9) rfl rfl Try.func21 (by kernel_rfl) rfl #[.agg #[.bool a0_0, .slice A0_1 l0_1.length c0_1]] rfl (by (try simp only [List.map_toArray, List.map_cons, List.map_nil]); first | done | rfl | (simp only [List.length_drop, List.length_take]; rfl)) ?_; (with_reducible refine (lock_Text.calls a0_0 _ _ l0_1 t123 t124 _ ?side1 ?side2 A3.out).mono ?_); (case side1 => repeat (first | exact (Kd.C_below HR0_1.out HB.out) | (with_reducible refine Kd.C_alloc ?_ _) | (with_reducible refine Kd.C_drewN ?_ _) | (with_reducible refine Kd.C_drew ?_))); (case side2 => exact HC0_1.out); rintro e w7 ⟨rfl, hb⟩; refine ⟨_, rfl, ?_⟩; have n0_ := Aside0.mk (blk_below (g := gb122) (o := .cells #[.bool a0_0, .slice A0_1 l0_1.length c0_1] 25 (0, 0)) (by (with_reducible repeat (first | refine blk_drewN ?_ _ | refine blk_drew ?_ | refine blk_alloc ?_ _)); exact BK122.out) hb); have n1_ := Aside0.mk (below_step (by repeat (first | (with_reducible first | exact HB.out | apply below_alloc | apply pw_below_drewN | apply below_drew1 | refine below_set ?_ GE122.out) | exact HB.out)) hb); clear BK122; clear HB; have BK122 := n0_; have HB := n1_; clear n0_ n1_; (try clear hb); (try clear hb2); (try clear hk); (try clear hi)))
    all_goals go_ret
    all_goals exact ⟨by first | rfl | (simp [errW_none, errW_some] <;> rfl) | (simp [*, errW_none, errW_some] <;> rfl), by repeat (first | (with_reducible first | exact HB.out | apply below_alloc | apply pw_below_drewN | apply below_drew1 | refine below_set ?_ GE122.out) | exact HB.out)⟩
  · rw [if_neg c4] at H
    have c4b0 : (t123.toList == a1.toList) = false := beq_eq_false_iff_ne.mpr c4
    have c4b1 : (t123.toList != a1.toList) = true := bne_iff_ne.mpr c4
    exact absurd H (by repeat (first | exact never_none | exact never_false | refine never_ite ?_ ?_ | refine never_bind (fun _ => ?_)))

end Go.Proofs.Ytdkabbjknclifaa.F
end
section
-- Written by fork.py (this session's program over the kit's print.py). Not trusted: Lean checks it.
namespace Go.Proofs.Ytdkabbjknclifaa.F
open Go.RowKit Go.Proofs.YtdkabbjknclifaaW.PrintWords Go.Proofs.YtdkabbjknclifaaW.PrintLast Go.Proofs.YtdkabbjknclifaaW.PrintMore
attribute [local go_sem] max2_int min2_int max_two min_two max_three min_three max_four min_four
set_option linter.unusedVariables false
set_option linter.unusedSimpArgs false

/-! ### L17_awake: function 10 -/
def L17_awake.f  : Option (Bool) := (lock_New.f 4).bind fun bt125 => ((lock_Unlock.f bt125.1 bt125.2.1 2).bind fun bt131 => ((lock_May.f bt131.1 bt131.2.1).bind fun bt137 => (if bt125.2.2 = 0 then (if bt131.2.2 = 0 then (if bt137.2 = 0 then (if bt137.1 = true then (some false) else ((L17_text.f bt125.1 bt125.2.1 (⟨#[120, 124, 120, 120, 120, 120]⟩ : ByteArray)).bind fun t139 => (if t139 = true then ((L17_text.f bt131.1 bt131.2.1 (⟨#[111, 124, 120, 120, 111, 120]⟩ : ByteArray)).bind fun t140 => (some t140)) else (some false)))) else (some false)) else (some false)) else (some false))))
set_option maxHeartbeats 8000000 in
set_option maxRecDepth 100000 in
theorem L17_awake.calls  (r : Bool) (w : World) (h : L17_awake.f  = some r) (ht_ : r = true := by rfl) :
    Calls Try.prog 10 #[] w fun e w' => e = .returned (.bool r) ∧ Below w.heap.size w w' := by
  subst ht_
  have hu25 := Try.underlying25
  have HB := Aside0.mk (Below.refl w.heap.size w)
  have H : ((lock_New.f 4).bind fun bt125 => ((lock_Unlock.f bt125.1 bt125.2.1 2).bind fun bt131 => ((lock_May.f bt131.1 bt131.2.1).bind fun bt137 => (if bt125.2.2 = 0 then (if bt131.2.2 = 0 then (if bt137.2 = 0 then (if bt137.1 = true then (some false) else ((L17_text.f bt125.1 bt125.2.1 (⟨#[120, 124, 120, 120, 120, 120]⟩ : ByteArray)).bind fun t139 => (if t139 = true then ((L17_text.f bt131.1 bt131.2.1 (⟨#[111, 124, 120, 120, 111, 120]⟩ : ByteArray)).bind fun t140 => (some t140)) else (some false)))) else (some false)) else (some false)) else (some false))))) = some true := h
  clear h
  replace H := Option.bind_eq_some_iff.mp H
  obtain ⟨⟨t125, t126, t129⟩, A10, H⟩ := H
  replace H : ((lock_Unlock.f t125 t126 2).bind fun bt131 => ((lock_May.f bt131.1 bt131.2.1).bind fun bt137 => (if t129 = 0 then (if bt131.2.2 = 0 then (if bt137.2 = 0 then (if bt137.1 = true then (some false) else ((L17_text.f t125 t126 (⟨#[120, 124, 120, 120, 120, 120]⟩ : ByteArray)).bind fun t139 => (if t139 = true then ((L17_text.f bt131.1 bt131.2.1 (⟨#[111, 124, 120, 120, 111, 120]⟩ : ByteArray)).bind fun t140 => (some t140)) else (some false)))) else (some false)) else (some false)) else (some false)))) = some true := H
  have A1 := Aside0.mk A10
  clear A10
  replace H := Option.bind_eq_some_iff.mp H
  obtain ⟨⟨t131, t132, t135⟩, A20, H⟩ := H
  replace H : ((lock_May.f t131 t132).bind fun bt137 => (if t129 = 0 then (if t135 = 0 then (if bt137.2 = 0 then (if bt137.1 = true then (some false) else ((L17_text.f t125 t126 (⟨#[120, 124, 120, 120, 120, 120]⟩ : ByteArray)).bind fun t139 => (if t139 = true then ((L17_text.f t131 t132 (⟨#[111, 124, 120, 120, 111, 120]⟩ : ByteArray)).bind fun t140 => (some t140)) else (some false)))) else (some false)) else (some false)) else (some false))) = some true := H
  have A2 := Aside0.mk A20
  clear A20
  replace H := Option.bind_eq_some_iff.mp H
  obtain ⟨⟨t137, t138⟩, A30, H⟩ := H
  replace H : (if t129 = 0 then (if t135 = 0 then (if t138 = 0 then (if t137 = true then (some false) else ((L17_text.f t125 t126 (⟨#[120, 124, 120, 120, 120, 120]⟩ : ByteArray)).bind fun t139 => (if t139 = true then ((L17_text.f t131 t132 (⟨#[111, 124, 120, 120, 111, 120]⟩ : ByteArray)).bind fun t140 => (some t140)) else (some false)))) else (some false)) else (some false)) else (some false)) = some true := H
  have A3 := Aside0.mk A30
  clear A30
  by_cases c4 : t129 = 0
  rotate_left
  · rw [if_neg c4] at H
    exact absurd H (by repeat (first | exact never_none | exact never_false | refine never_ite ?_ ?_ | refine never_bind (fun _ => ?_)))
  rw [if_pos c4] at H
  have c4b0 : (t129 == 0) = true := beq_iff_eq.mpr c4
  have c4b1 : (t129 != 0) = false := bne_eq_false_iff_eq.mpr c4
  clear c4
  by_cases c5 : t135 = 0
  rotate_left
  · rw [if_neg c5] at H
    exact absurd H (by repeat (first | exact never_none | exact never_false | refine never_ite ?_ ?_ | refine never_bind (fun _ => ?_)))
  rw [if_pos c5] at H
  have c5b0 : (t135 == 0) = true := beq_iff_eq.mpr c5
  have c5b1 : (t135 != 0) = false := bne_eq_false_iff_eq.mpr c5
  clear c5
  by_cases c6 : t138 = 0
  rotate_left
  · rw [if_neg c6] at H
    exact absurd H (by repeat (first | exact never_none | exact never_false | refine never_ite ?_ ?_ | refine never_bind (fun _ => ?_)))
  rw [if_pos c6] at H
  have c6b0 : (t138 == 0) = true := beq_iff_eq.mpr c6
  have c6b1 : (t138 != 0) = false := bne_eq_false_iff_eq.mpr c6
  clear c6
  by_cases c7 : t137 = true
  · subst c7
    have H1 : (some false) = some true := by rw [if_pos rfl] at H; exact H
    clear H
    have H := H1
    clear H1
    exact absurd H (by repeat (first | exact never_none | exact never_false | refine never_ite ?_ ?_ | refine never_bind (fun _ => ?_)))
  replace c7 := Bool.eq_false_iff.mpr c7
  subst c7
  have H1 : ((L17_text.f t125 t126 (⟨#[120, 124, 120, 120, 120, 120]⟩ : ByteArray)).bind fun t139 => (if t139 = true then ((L17_text.f t131 t132 (⟨#[111, 124, 120, 120, 111, 120]⟩ : ByteArray)).bind fun t140 => (some t140)) else (some false))) = some true := by rw [if_neg (show ¬ (false = true) by decide)] at H; exact H
  clear H
  have H := H1
  clear H1
  replace H := Option.bind_eq_some_iff.mp H
  obtain ⟨t139, A80, H⟩ := H
  replace H : (if t139 = true then ((L17_text.f t131 t132 (⟨#[111, 124, 120, 120, 111, 120]⟩ : ByteArray)).bind fun t140 => (some t140)) else (some false)) = some true := H
  have A8 := Aside0.mk A80
  clear A80
  by_cases c9 : t139 = true
  rotate_left
  · replace c9 := Bool.eq_false_iff.mpr c9
    subst c9
    have H1 : (some false) = some true := by rw [if_neg (show ¬ (false = true) by decide)] at H; exact H
    clear H
    have H := H1
    clear H1
    exact absurd H (by repeat (first | exact never_none | exact never_false | refine never_ite ?_ ?_ | refine never_bind (fun _ => ?_)))
  subst c9
  have H1 : ((L17_text.f t131 t132 (⟨#[111, 124, 120, 120, 111, 120]⟩ : ByteArray)).bind fun t140 => (some t140)) = some true := by rw [if_pos rfl] at H; exact H
  clear H
  have H := H1
  clear H1
  replace H := Option.bind_eq_some_iff.mp H
  obtain ⟨t140, A100, H⟩ := H
  replace H : (some t140) = some true := H
  have A10 := Aside0.mk A100
  clear A100
  have Ht_ := Option.some.inj H
  clear H
  subst Ht_
  have H : (some true : Option Bool) = some true := rfl
  clear H
  go_enter Try.func10, Try.ntmps10
  go_wp2_with (first | ((with_reducible refine gate_callee (f := 26) rfl ?_); refine goesL_ (some 8) rfl rfl Try.func26 (by kernel_rfl) rfl #[.int .i64 4] rfl (by (try simp only [List.map_toArray, List.map_cons, List.map_nil]); first | done | rfl | (simp only [List.length_drop, List.length_take]; rfl)) ?_; (with_reducible refine (lock_New.calls 4 t125 t126 t129 _ A1.out).mono ?_); rintro e w11 ⟨v127, rfl, ho0, hb⟩; refine ⟨_, rfl, ?_⟩; have n0_ := Aside0.mk (Kd.R_lower ho0 (below_size (by repeat (first | (with_reducible first | exact HB.out | apply below_alloc | apply pw_below_drewN | apply below_drew1) | exact HB.out)))); have n1_ := Aside0.mk (below_step (by repeat (first | (with_reducible first | exact HB.out | apply below_alloc | apply pw_below_drewN | apply below_drew1) | exact HB.out)) hb); clear HB; have HO128 := n0_; have HB := n1_; clear n0_ n1_; (try clear hb); (try clear hb2); (try clear hk); (try clear hi); (try clear ho0)) | ((with_reducible refine gate_dst (N := 1) rfl ?_); refine box_event ?hg (N := 1) ?hd (cs := #[.bool false, .slice none 0 0]) (t := 25) ?hr ?_; (case hd => rfl); (case hg => rfl); (case hr => first | (go_simp; done) | (go_simp; rfl)); intro gb130 hg w12 hbox hb; have n0_ := Aside0.mk (Kd.R_below (by (with_reducible repeat (first | apply Kd.R_alloc | apply Kd.R_drewN | apply Kd.R_drew)); exact HO128.out) hb); have n1_ := Aside0.mk (below_step (by repeat (first | (with_reducible first | exact HB.out | apply below_alloc | apply pw_below_drewN | apply below_drew1) | exact HB.out)) hb); have n2_ := Aside0.mk (hbox); have n3_ := Aside0.mk ((by rw [hg]; exact (below_size (by repeat (first | (with_reducible first | exact HB.out | apply below_alloc | apply pw_below_drewN | apply below_drew1) | exact HB.out))) : w.heap.size ≤ gb130)); have n4_ := Aside0.mk ((by rw [hg]; exact (below_size (by repeat (first | (with_reducible first | exact HB.out | apply below_alloc | apply pw_below_drewN | apply below_drew1) | exact HB.out))) : w.heap.size ≤ gb130)); clear HO128; clear HB; have HO128 := n0_; have HB := n1_; have BK130 := n2_; have GW130 := n3_; have GE130 := n4_; clear n0_ n1_ n2_ n3_ n4_; clear hb hbox hg; have hcz13_0 : w12.cell? ⟨gb130, 0, none⟩ = some (.bool false) := (blk_cell BK130.out 0).trans rfl; have hcz13_1 : w12.cell? ⟨gb130, 1, none⟩ = some (.slice none 0 0) := (blk_cell BK130.out 1).trans rfl; have hfz13_0 := blk_frozen BK130.out 0; have hfz13_1 := blk_frozen BK130.out 1; obtain ⟨Ao14, co14, eo14⟩ := Kd.R_slice HO128.out; subst eo14) | ((with_reducible refine gate_callee (f := 30) rfl ?_); refine goesL_ (some 13) rfl rfl Try.func30 (by kernel_rfl) rfl #[.agg #[.bool t125, .slice Ao14 t126.length co14], .int .i64 2] rfl (by (try simp only [List.map_toArray, List.map_cons, List.map_nil]); first | done | rfl | (simp only [List.length_drop, List.length_take]; rfl)) ?_; (with_reducible refine (lock_Unlock.calls t125 _ _ t126 2 t131 t132 t135 _ ?side1 ?side2 A2.out).mono ?_); (case side1 => refine (Kd.R_reads' (e := 4) (base := w.heap.size) (ok := fun k_ => True) (n := t126.length) (c := co14) ?_).2.2; exact (by (with_reducible repeat (first | apply Kd.R_alloc | apply Kd.R_drewN | apply Kd.R_drew)); exact (Kd.R_mono (Kd.R_far (p := ⟨gb130, 1, none⟩) (Kd.R_far (p := ⟨gb130, 0, none⟩) (Kd.R_types HO128.out BK130.out (by decide)) (fun _ hk => hk.2) (.bool t125)) (fun _ hk => hk.2) (.slice Ao14 t126.length co14)) (fun _ h_ => h_.1)))); (case side2 => exact (Kd.R_reads' HO128.out).2.1); rintro e w15 ⟨v133, rfl, ho0, hb⟩; refine ⟨_, rfl, ?_⟩; have n0_ := Aside0.mk (Kd.R_elder' (by (with_reducible repeat (first | apply Kd.R_alloc | apply Kd.R_drewN | apply Kd.R_drew)); exact (Kd.R_mono (Kd.R_far (p := ⟨gb130, 1, none⟩) (Kd.R_far (p := ⟨gb130, 0, none⟩) (Kd.R_types HO128.out BK130.out (by decide)) (fun _ hk => hk.2) (.bool t125)) (fun _ hk => hk.2) (.slice Ao14 t126.length co14)) (fun _ h_ => h_.1))) (Kd.R_base ho0) hb); have n1_ := Aside0.mk (Kd.R_lower (Kd.R_new' ho0 (Kd.R_lt (by (with_reducible repeat (first | apply Kd.R_alloc | apply Kd.R_drewN | apply Kd.R_drew)); exact (Kd.R_mono (Kd.R_far (p := ⟨gb130, 1, none⟩) (Kd.R_far (p := ⟨gb130, 0, none⟩) (Kd.R_types HO128.out BK130.out (by decide)) (fun _ hk => hk.2) (.bool t125)) (fun _ hk => hk.2) (.slice Ao14 t126.length co14)) (fun _ h_ => h_.1))))) (below_size (by repeat (first | (with_reducible first | exact HB.out | apply below_alloc | apply pw_below_drewN | apply below_drew1 | refine below_set ?_ GE130.out) | exact HB.out)))); have n2_ := Aside0.mk (blk_below (g := gb130) (o := .cells #[.bool t125, .slice Ao14 t126.length co14] 25 (0, 0)) (by (with_reducible repeat (first | refine blk_drewN ?_ _ | refine blk_drew ?_ | refine blk_alloc ?_ _)); refine blk_put (cs := #[.bool t125, .slice none 0 0]) ?_ 1 _ rfl; (with_reducible repeat (first | refine blk_drewN ?_ _ | refine blk_drew ?_ | refine blk_alloc ?_ _)); refine blk_put (cs := #[.bool false, .slice none 0 0]) ?_ 0 _ rfl; (with_reducible repeat (first | refine blk_drewN ?_ _ | refine blk_drew ?_ | refine blk_alloc ?_ _)); exact BK130.out) hb); have n3_ := Aside0.mk (below_step (by repeat (first | (with_reducible first | exact HB.out | apply below_alloc | apply pw_below_drewN | apply below_drew1 | refine below_set ?_ GE130.out) | exact HB.out)) hb); clear HO128; clear BK130; clear HB; have HO128 := n0_; have HO134 := n1_; have BK130 := n2_; have HB := n3_; clear n0_ n1_ n2_ n3_; (try clear hb); (try clear hb2); (try clear hk); (try clear hi); (try clear ho0)) | ((with_reducible refine gate_dst (N := 3) rfl ?_); refine box_event ?hg (N := 3) ?hd (cs := #[.bool false, .slice none 0 0]) (t := 25) ?hr ?_; (case hd => rfl); (case hg => rfl); (case hr => first | (go_simp; done) | (go_simp; rfl)); intro gb136 hg w16 hbox hb; have n0_ := Aside0.mk (Kd.R_below (by (with_reducible repeat (first | apply Kd.R_alloc | apply Kd.R_drewN | apply Kd.R_drew)); exact HO128.out) hb); have n1_ := Aside0.mk (Kd.R_below (by (with_reducible repeat (first | apply Kd.R_alloc | apply Kd.R_drewN | apply Kd.R_drew)); exact HO134.out) hb); have n2_ := Aside0.mk (blk_below (g := gb130) (o := .cells #[.bool t125, .slice Ao14 t126.length co14] 25 (0, 0)) (by (with_reducible repeat (first | refine blk_drewN ?_ _ | refine blk_drew ?_ | refine blk_alloc ?_ _)); exact BK130.out) hb); have n3_ := Aside0.mk (below_step (by repeat (first | (with_reducible first | exact HB.out | apply below_alloc | apply pw_below_drewN | apply below_drew1 | refine below_set ?_ GE130.out) | exact HB.out)) hb); have n4_ := Aside0.mk (hbox); have n5_ := Aside0.mk ((by rw [hg]; exact (below_size (by repeat (first | (with_reducible first | exact HB.out | apply below_alloc | apply pw_below_drewN | apply below_drew1 | refine below_set ?_ GE130.out) | exact HB.out))) : w.heap.size ≤ gb136)); have n6_ := Aside0.mk ((by rw [hg]; exact (below_size (by repeat (first | (with_reducible first | exact HB.out | apply below_alloc | apply pw_below_drewN | apply below_drew1 | refine below_set ?_ GE130.out) | exact HB.out))) : w.heap.size ≤ gb136)); have n7_ := Aside0.mk ((by rw [hg]; exact Nat.ne_of_lt (blk_lt (g := gb130) (o := .cells #[.bool t125, .slice Ao14 t126.length co14] 25 (0, 0)) (by (with_reducible repeat (first | refine blk_drewN ?_ _ | refine blk_drew ?_ | refine blk_alloc ?_ _)); exact BK130.out)) : gb130 ≠ gb136)); have n8_ := Aside0.mk ((by rw [hg]; exact Nat.ne_of_gt (blk_lt (g := gb130) (o := .cells #[.bool t125, .slice Ao14 t126.length co14] 25 (0, 0)) (by (with_reducible repeat (first | refine blk_drewN ?_ _ | refine blk_drew ?_ | refine blk_alloc ?_ _)); exact BK130.out)) : gb136 ≠ gb130)); clear HO128; clear HO134; clear BK130; clear HB; have HO128 := n0_; have HO134 := n1_; have BK130 := n2_; have HB := n3_; have BK136 := n4_; have GW136 := n5_; have GE136 := n6_; have NB130_136 := n7_; have NB136_130 := n8_; clear n0_ n1_ n2_ n3_ n4_ n5_ n6_ n7_ n8_; clear hb hbox hg; have hnb17 := NB136_130.out; have hnc17 := NB130_136.out; have hcz18_0 : w16.cell? ⟨gb136, 0, none⟩ = some (.bool false) := (blk_cell BK136.out 0).trans rfl; have hcz18_1 : w16.cell? ⟨gb136, 1, none⟩ = some (.slice none 0 0) := (blk_cell BK136.out 1).trans rfl; have hfz18_0 := blk_frozen BK136.out 0; have hfz18_1 := blk_frozen BK136.out 1; obtain ⟨Ao19, co19, eo19⟩ := Kd.R_slice HO134.out; subst eo19) | ((with_reducible refine gate_callee (f := 14) rfl ?_); refine goesL_ (some 18) rfl rfl Try.func14 (by kernel_rfl) rfl #[.agg #[.bool t131, .slice Ao19 t132.length co19]] rfl (by (try simp only [List.map_toArray, List.map_cons, List.map_nil]); first | done | rfl | (simp only [List.length_drop, List.length_take]; rfl)) ?_; (with_reducible refine (lock_May.calls t131 _ _ t132 false t138 _ ?side1 ?side2 A3.out).mono ?_); (case side1 => refine (Kd.R_reads' (e := 4) (base := w.heap.size) (ok := fun k_ => (True ∧ some k_ ≠ (.slice Ao14 t126.length co14 : Value).ownBlock)) (n := t132.length) (c := co19) ?_).2.2; exact (by (with_reducible repeat (first | apply Kd.R_alloc | apply Kd.R_drewN | apply Kd.R_drew)); exact (Kd.R_mono (Kd.R_far (p := ⟨gb136, 1, none⟩) (Kd.R_far (p := ⟨gb136, 0, none⟩) (Kd.R_types HO134.out BK136.out (by decide)) (fun _ hk => hk.2) (.bool t131)) (fun _ hk => hk.2) (.slice Ao19 t132.length co19)) (fun _ h_ => h_.1)))); (case side2 => exact (Kd.R_reads' HO134.out).2.1); rintro e w20 ⟨rfl, hb⟩; refine ⟨_, rfl, ?_⟩; have n0_ := Aside0.mk (Kd.R_below (by (with_reducible repeat (first | apply Kd.R_alloc | apply Kd.R_drewN | apply Kd.R_drew)); exact (Kd.R_mono (Kd.R_far (p := ⟨gb136, 1, none⟩) (Kd.R_far (p := ⟨gb136, 0, none⟩) (Kd.R_types HO128.out BK136.out (by decide)) (fun _ hk => hk.2) (.bool t131)) (fun _ hk => hk.2) (.slice Ao19 t132.length co19)) (fun _ h_ => h_.1))) hb); have n1_ := Aside0.mk (Kd.R_below (by (with_reducible repeat (first | apply Kd.R_alloc | apply Kd.R_drewN | apply Kd.R_drew)); exact (Kd.R_mono (Kd.R_far (p := ⟨gb136, 1, none⟩) (Kd.R_far (p := ⟨gb136, 0, none⟩) (Kd.R_types HO134.out BK136.out (by decide)) (fun _ hk => hk.2) (.bool t131)) (fun _ hk => hk.2) (.slice Ao19 t132.length co19)) (fun _ h_ => h_.1))) hb); have n2_ := Aside0.mk (blk_below (g := gb130) (o := .cells #[.bool t125, .slice Ao14 t126.length co14] 25 (0, 0)) (by (with_reducible repeat (first | refine blk_drewN ?_ _ | refine blk_drew ?_ | refine blk_alloc ?_ _)); refine blk_far ?_ NB130_136.out _; (with_reducible repeat (first | refine blk_drewN ?_ _ | refine blk_drew ?_ | refine blk_alloc ?_ _)); refine blk_far ?_ NB130_136.out _; (with_reducible repeat (first | refine blk_drewN ?_ _ | refine blk_drew ?_ | refine blk_alloc ?_ _)); exact BK130.out) hb); have n3_ := Aside0.mk (blk_below (g := gb136) (o := .cells #[.bool t131, .slice Ao19 t132.length co19] 25 (0, 0)) (by (with_reducible repeat (first | refine blk_drewN ?_ _ | refine blk_drew ?_ | refine blk_alloc ?_ _)); refine blk_put (cs := #[.bool t131, .slice none 0 0]) ?_ 1 _ rfl; (with_reducible repeat (first | refine blk_drewN ?_ _ | refine blk_drew ?_ | refine blk_alloc ?_ _)); refine blk_put (cs := #[.bool false, .slice none 0 0]) ?_ 0 _ rfl; (with_reducible repeat (first | refine blk_drewN ?_ _ | refine blk_drew ?_ | refine blk_alloc ?_ _)); exact BK136.out) hb); have n4_ := Aside0.mk (below_step (by repeat (first | (with_reducible first | exact HB.out | apply below_alloc | apply pw_below_drewN | apply below_drew1 | refine below_set ?_ GE130.out | refine below_set ?_ GE136.out) | exact HB.out)) hb); clear HO128; clear HO134; clear BK130; clear BK136; clear HB; have HO128 := n0_; have HO134 := n1_; have BK130 := n2_; have BK136 := n3_; have HB := n4_; clear n0_ n1_ n2_ n3_ n4_; (try clear hb); (try clear hb2); (try clear hk); (try clear hi); have hcz21_0 : w20.cell? ⟨gb130, 0, none⟩ = some (.bool t125) := (blk_cell BK130.out 0).trans rfl; have hcz21_1 : w20.cell? ⟨gb130, 1, none⟩ = some (.slice Ao14 t126.length co14) := (blk_cell BK130.out 1).trans rfl; have hfz21_0 := blk_frozen BK130.out 0; have hfz21_1 := blk_frozen BK130.out 1) | ((with_reducible refine gate_callee (f := 38) rfl ?_); (with_reducible refine gate_dst (N := 37) rfl ?_); refine gate_guard (by rfl) ?_; dsimp only; refine goesL_ (some 37) rfl rfl Try.func38 (by kernel_rfl) rfl #[.agg #[.bool t125, .slice Ao14 t126.length co14], .string (⟨#[120, 124, 120, 120, 120, 120]⟩ : ByteArray)] rfl (by (try simp only [List.map_toArray, List.map_cons, List.map_nil]); first | done | rfl | (simp only [List.length_drop, List.length_take]; rfl)) ?_; (with_reducible refine (L17_text.calls t125 _ _ t126 (⟨#[120, 124, 120, 120, 120, 120]⟩ : ByteArray) true _ ?side1 ?side2 A8.out).mono ?_); (case side1 => repeat (first | exact (Kd.R_reads' HO128.out).2.2 | (with_reducible refine Kd.C_alloc ?_ _) | (with_reducible refine Kd.C_drewN ?_ _) | (with_reducible refine Kd.C_drew ?_))); (case side2 => exact (Kd.R_reads' HO128.out).2.1); rintro e w22 ⟨rfl, hb⟩; refine ⟨_, rfl, ?_⟩; have n1_ := Aside0.mk (Kd.R_below (by (with_reducible repeat (first | apply Kd.R_alloc | apply Kd.R_drewN | apply Kd.R_drew)); exact HO134.out) hb); have n3_ := Aside0.mk (blk_below (g := gb136) (o := .cells #[.bool t131, .slice Ao19 t132.length co19] 25 (0, 0)) (by (with_reducible repeat (first | refine blk_drewN ?_ _ | refine blk_drew ?_ | refine blk_alloc ?_ _)); exact BK136.out) hb); have n4_ := Aside0.mk (below_step (by repeat (first | (with_reducible first | exact HB.out | apply below_alloc | apply pw_below_drewN | apply below_drew1 | refine below_set ?_ GE130.out | refine below_set ?_ GE136.out) | exact HB.out)) hb); clear HO128; clear HO134; clear BK130; clear BK136; clear HB; have HO134 := n1_; have BK136 := n3_; have HB := n4_; clear n1_ n3_ n4_; (try clear hb); (try clear hb2); (try clear hk); (try clear hi); have hcz23_0 : w22.cell? ⟨gb136, 0, none⟩ = some (.bool t131) := (blk_cell BK136.out 0).trans rfl; have hcz23_1 : w22.cell? ⟨gb136, 1, none⟩ = some (.slice Ao19 t132.length co19) := (blk_cell BK136.out 1).trans rfl; have hfz23_0 := blk_frozen BK136.out 0; have hfz23_1 := blk_frozen BK136.out 1) | ((with_reducible refine gate_callee (f := 38) rfl ?_); (with_reducible refine gate_dst (N := 41) rfl ?_); refine gate_guard (by rfl) ?_; dsimp only; refine goesL_ (some 41) rfl rfl Try.func38 (by kernel_rfl) rfl #[.agg #[.bool t131, .slice Ao19 t132.length co19], .string (⟨#[111, 124, 120, 120, 111, 120]⟩ : ByteArray)] rfl (by (try simp only [List.map_toArray, List.map_cons, List.map_nil]); first | done | rfl | (simp only [List.length_drop, List.length_take]; rfl)) ?_; (with_reducible refine (L17_text.calls t131 _ _ t132 (⟨#[111, 124, 120, 120, 111, 120]⟩ : ByteArray) true _ ?side1 ?side2 A10.out).mono ?_); (case side1 => repeat (first | exact (Kd.R_reads' HO134.out).2.2 | (with_reducible refine Kd.C_alloc ?_ _) | (with_reducible refine Kd.C_drewN ?_ _) | (with_reducible refine Kd.C_drew ?_))); (case side2 => exact (Kd.R_reads' HO134.out).2.1); rintro e w24 ⟨rfl, hb⟩; refine ⟨_, rfl, ?_⟩; have n4_ := Aside0.mk (below_step (by repeat (first | (with_reducible first | exact HB.out | apply below_alloc | apply pw_below_drewN | apply below_drew1 | refine below_set ?_ GE130.out | refine below_set ?_ GE136.out) | exact HB.out)) hb); clear HO134; clear BK136; clear HB; have HB := n4_; clear n4_; (try clear hb); (try clear hb2); (try clear hk); (try clear hi)))
  all_goals go_ret
  all_goals exact ⟨by first | rfl | (simp [errW_none, errW_some] <;> rfl) | (simp [*, errW_none, errW_some] <;> rfl), by repeat (first | (with_reducible first | exact HB.out | apply below_alloc | apply pw_below_drewN | apply below_drew1 | refine below_set ?_ GE130.out | refine below_set ?_ GE136.out) | exact HB.out)⟩


end Go.Proofs.Ytdkabbjknclifaa.F
end
section
namespace Go.Proofs.Ytdkabbjknclifaa.Pure
open Go.RowKit Go.Proofs.Ytdkabbjknclifaa.F Go.Proofs.YtdkabbjknclifaaW.PrintWords Go.Proofs.YtdkabbjknclifaaW.PrintLast
set_option linter.unusedVariables false
set_option linter.unusedSimpArgs false
def new (n : Int) : Bool × List Bool × Int := if n < 2 then (false, [], 2) else if n > 64 then (false, [], 2) else (true, List.replicate n.toNat true, 0)
end Go.Proofs.Ytdkabbjknclifaa.Pure
end

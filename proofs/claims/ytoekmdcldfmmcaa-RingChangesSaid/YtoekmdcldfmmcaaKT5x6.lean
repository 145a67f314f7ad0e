/- Part 6 of T5: what the functions reckon, step by step, and plain laws. No condition. -/
import Derived.Test.YtoekmdcldfmmcaaKT5x5
set_option linter.unusedVariables false
set_option linter.unusedSimpArgs false
section
namespace Go.Proofs.Ytoekmdcldfmmcaa.F
open Go.RowKit Go.Proofs.YtoekmdcldfmmcaaW.PrintWords Go.Proofs.YtoekmdcldfmmcaaW.PrintLast Go.Proofs.YtoekmdcldfmmcaaW.PrintMore
set_option linter.unusedVariables false
set_option linter.unusedSimpArgs false
variable {ops : Array Oper} {rest : List Oper} {o : Oper} {a : Act} {Q : Exit → Act → World → Prop}
/-- 'delete(stays, x)' at the operation. -/
theorem wpList_seenI_del (w : World) (hg : o.guard = none) (m x : Operand) (hop : o.op = Op.call { callee := Callee.builtin Builtin.delete, args := #[m, x], argTypes := #[67, 3] }) (b n : Nat) (p : Int → Bool) (hs : SeenI w b n p) (y : Int) (hw : wfW y = true)
    (hm : a.eval m = .map (some b)) (hx : a.eval x = .int .i64 y)
    (hK : ∀ w', SeenI w' b n (fun z => z != y && p z) → w.grownBy w' (some b) → wpList Try.prog ops Q rest (a.put o.dst (.tuple #[])) w') : wpList Try.prog ops Q (o :: rest) a w := by
  obtain ⟨D, h2, h3, h5⟩ := hs
  refine wpList_delete_own w hg m x 67 3 hop 4 keyed3 Try.underlying67 _ b n D hm h2 _ _ hx (key3 hw) fun w' ho ht => ?_
  refine hK w' ⟨_, ho, ?_, fun z hz => ?_⟩ ht.grown
  · obtain ⟨es, rfl⟩ := h3
    exact ⟨_, rfl⟩
  · by_cases e : z = y
    · subst e
      exact (Maps.atKey_del_same _).trans (by simp)
    · have hne : Lit.int .i64 z ≠ Lit.int .i64 y := fun ek => e (by injection ek)
      rw [Maps.atKey_del_other hne, h5 z hz]
      simp [e]
end Go.Proofs.Ytoekmdcldfmmcaa.F
end
section
namespace Go.Proofs.Ytoekmdcldfmmcaa.F
open Go.RowKit Go.Proofs.YtoekmdcldfmmcaaW.PrintWords Go.Proofs.YtoekmdcldfmmcaaW.PrintLast Go.Proofs.YtoekmdcldfmmcaaW.PrintMore
attribute [local go_sem] Oper.semAt_some Instr.field asAgg
set_option linter.unusedVariables false
set_option linter.unusedSimpArgs false
/-- What the loops keep: the ring's block, the result's block, the map. -/
def St (w W : World) (o o' : Obj) (mb n : Nat) (p : Int → Bool) : Prop := Two w W o o' ∧ SeenI W mb n p ∧ w.heap.size + 1 < mb
end Go.Proofs.Ytoekmdcldfmmcaa.F
end
section
namespace Go.Proofs.Ytoekmdcldfmmcaa.F
open Go.RowKit Go.Proofs.YtoekmdcldfmmcaaW.PrintWords Go.Proofs.YtoekmdcldfmmcaaW.PrintLast Go.Proofs.YtoekmdcldfmmcaaW.PrintMore
attribute [local go_sem] Oper.semAt_some Instr.field asAgg
set_option linter.unusedVariables false
set_option linter.unusedSimpArgs false
theorem St.kept {w W W' : World} {o o' : Obj} {mb n : Nat} {p : Int → Bool} (h : St w W o o' mb n p) (hb : Below W.heap.size W W') : St w W' o o' mb n p :=
  ⟨h.1.below hb, h.2.1.kept (grown_of_below hb none) (fun e => by cases e), h.2.2⟩
end Go.Proofs.Ytoekmdcldfmmcaa.F
end
section
namespace Go.Proofs.Ytoekmdcldfmmcaa.F
open Go.RowKit Go.Proofs.YtoekmdcldfmmcaaW.PrintWords Go.Proofs.YtoekmdcldfmmcaaW.PrintLast Go.Proofs.YtoekmdcldfmmcaaW.PrintMore
attribute [local go_sem] Oper.semAt_some Instr.field asAgg
set_option linter.unusedVariables false
set_option linter.unusedSimpArgs false
theorem St.turned {w W W' : World} {o o' : Obj} {mb n n' : Nat} {p q : Int → Bool} (h : St w W o o' mb n p) (hg : W.grownBy W' (some mb)) (hs : SeenI W' mb n' q) : St w W' o o' mb n' q :=
  ⟨⟨h.1.1.grown hg h.1.1.size (fun k hk => by have := Option.some.inj hk; have := h.2.2; omega), (hg.block _ (blk_lt h.1.2.1) (fun e => by have := Option.some.inj e; have := h.2.2; omega)).trans h.1.2.1, (hg.block _ (blk_lt h.1.2.2) (fun e => by have := Option.some.inj e; have := h.2.2; omega)).trans h.1.2.2⟩, hs, h.2.2⟩
end Go.Proofs.Ytoekmdcldfmmcaa.F
end
section
namespace Go.Proofs.Ytoekmdcldfmmcaa.F
open Go.RowKit Go.Proofs.YtoekmdcldfmmcaaW.PrintWords Go.Proofs.YtoekmdcldfmmcaaW.PrintLast Go.Proofs.YtoekmdcldfmmcaaW.PrintMore
attribute [local go_sem] Oper.semAt_some Instr.field asAgg
set_option linter.unusedVariables false
set_option linter.unusedSimpArgs false
theorem St.row {w W W' : World} {o o' : Obj} {mb n : Nat} {p : Int → Bool} (h : St w W o o' mb n p) {r : Option Nat} (hg : W.grownBy W' r) (hr : ∀ k, r = some k → mb < k) : St w W' o o' mb n p :=
  ⟨⟨h.1.1.grown hg h.1.1.size (fun k hk => by have := hr k hk; have := h.2.2; omega), (hg.block _ (blk_lt h.1.2.1) (fun e => by have := hr _ e.symm; have := h.2.2; omega)).trans h.1.2.1, (hg.block _ (blk_lt h.1.2.2) (fun e => by have := hr _ e.symm; have := h.2.2; omega)).trans h.1.2.2⟩, h.2.1.kept hg (fun e => by have := hr _ e.symm; omega), h.2.2⟩
end Go.Proofs.Ytoekmdcldfmmcaa.F
end
section
namespace Go.Proofs.Ytoekmdcldfmmcaa.F
open Go.RowKit Go.Proofs.YtoekmdcldfmmcaaW.PrintWords Go.Proofs.YtoekmdcldfmmcaaW.PrintLast Go.Proofs.YtoekmdcldfmmcaaW.PrintMore
attribute [local go_sem] Oper.semAt_some Instr.field asAgg
set_option linter.unusedVariables false
set_option linter.unusedSimpArgs false
def pin (l : List S35) (x : Int) : Bool := l.any (fun h => h.f1 == x)
end Go.Proofs.Ytoekmdcldfmmcaa.F
end
section
namespace Go.Proofs.Ytoekmdcldfmmcaa.F
open Go.RowKit Go.Proofs.YtoekmdcldfmmcaaW.PrintWords Go.Proofs.YtoekmdcldfmmcaaW.PrintLast Go.Proofs.YtoekmdcldfmmcaaW.PrintMore
attribute [local go_sem] Oper.semAt_some Instr.field asAgg
set_option linter.unusedVariables false
set_option linter.unusedSimpArgs false
theorem rd_get {l : List S35} {i : Nat} (h : i < l.length) : rd_T35 l (i : Int) = l[i] := by simp [rd_T35, List.getD_eq_getElem?_getD, List.getElem?_eq_getElem h]
end Go.Proofs.Ytoekmdcldfmmcaa.F
end
section
namespace Go.Proofs.Ytoekmdcldfmmcaa.F
open Go.RowKit Go.Proofs.YtoekmdcldfmmcaaW.PrintWords Go.Proofs.YtoekmdcldfmmcaaW.PrintLast Go.Proofs.YtoekmdcldfmmcaaW.PrintMore
attribute [local go_sem] Oper.semAt_some Instr.field asAgg
set_option linter.unusedVariables false
set_option linter.unusedSimpArgs false
theorem take_next {α : Type} {l : List α} {i : Nat} (h : i < l.length) : l.take (i + 1) = l.take i ++ [l[i]] := by simp
end Go.Proofs.Ytoekmdcldfmmcaa.F
end
section
namespace Go.Proofs.Ytoekmdcldfmmcaa.F
open Go.RowKit Go.Proofs.YtoekmdcldfmmcaaW.PrintWords Go.Proofs.YtoekmdcldfmmcaaW.PrintLast Go.Proofs.YtoekmdcldfmmcaaW.PrintMore
attribute [local go_sem] Oper.semAt_some Instr.field asAgg
set_option linter.unusedVariables false
set_option linter.unusedSimpArgs false
theorem pin_next {l : List S35} {i : Nat} (h : i < l.length) (x : Int) : (x == (rd_T35 l (i : Int)).f1 || pin (l.take i) x) = pin (l.take (i + 1)) x := by
  rw [take_next h, rd_get h]
  unfold pin
  simp only [List.any_append, List.any_cons, List.any_nil, Bool.or_false]
  rw [Bool.or_comm]
  congr 1
  exact Bool.eq_iff_iff.mpr ⟨fun e => by simp at e ⊢; exact e.symm, fun e => by simp at e ⊢; exact e.symm⟩
end Go.Proofs.Ytoekmdcldfmmcaa.F
end
section
namespace Go.Proofs.Ytoekmdcldfmmcaa.F
open Go.RowKit Go.Proofs.YtoekmdcldfmmcaaW.PrintWords Go.Proofs.YtoekmdcldfmmcaaW.PrintLast Go.Proofs.YtoekmdcldfmmcaaW.PrintMore
attribute [local go_sem] Oper.semAt_some Instr.field asAgg
set_option linter.unusedVariables false
set_option linter.unusedSimpArgs false
theorem wf_pick {l : List S35} (h : l.all (fun h => wfW h.f1) = true) {i : Nat} (hi : i < l.length) : wfW (rd_T35 l (i : Int)).f1 = true := by
  rw [rd_get hi]
  exact List.all_eq_true.mp h _ (List.getElem_mem hi)
end Go.Proofs.Ytoekmdcldfmmcaa.F
end
section
namespace Go.Proofs.Ytoekmdcldfmmcaa.F
open Go.RowKit Go.Proofs.YtoekmdcldfmmcaaW.PrintWords Go.Proofs.YtoekmdcldfmmcaaW.PrintLast Go.Proofs.YtoekmdcldfmmcaaW.PrintMore
attribute [local go_sem] Oper.semAt_some Instr.field asAgg
set_option linter.unusedVariables false
set_option linter.unusedSimpArgs false
def stay (l : List S35) (m : List Int) (x : Int) : Bool := pin l x && !(m.contains x)
end Go.Proofs.Ytoekmdcldfmmcaa.F
end
section
namespace Go.Proofs.Ytoekmdcldfmmcaa.F
open Go.RowKit Go.Proofs.YtoekmdcldfmmcaaW.PrintWords Go.Proofs.YtoekmdcldfmmcaaW.PrintLast Go.Proofs.YtoekmdcldfmmcaaW.PrintMore
attribute [local go_sem] Oper.semAt_some Instr.field asAgg
set_option linter.unusedVariables false
set_option linter.unusedSimpArgs false
theorem rd_get_int {l : List Int} {i : Nat} (h : i < l.length) : rd l (i : Int) = l[i] := by simp [rd, rdOf, List.getD_eq_getElem?_getD, List.getElem?_eq_getElem h]
end Go.Proofs.Ytoekmdcldfmmcaa.F
end
section
namespace Go.Proofs.Ytoekmdcldfmmcaa.F
open Go.RowKit Go.Proofs.YtoekmdcldfmmcaaW.PrintWords Go.Proofs.YtoekmdcldfmmcaaW.PrintLast Go.Proofs.YtoekmdcldfmmcaaW.PrintMore
attribute [local go_sem] Oper.semAt_some Instr.field asAgg
set_option linter.unusedVariables false
set_option linter.unusedSimpArgs false
theorem wf_pick_int {l : List Int} (h : l.all wfW = true) {i : Nat} (hi : i < l.length) : wfW (rd l (i : Int)) = true := by
  rw [rd_get_int hi]
  exact List.all_eq_true.mp h _ (List.getElem_mem hi)
end Go.Proofs.Ytoekmdcldfmmcaa.F
end
section
namespace Go.Proofs.Ytoekmdcldfmmcaa.F
open Go.RowKit Go.Proofs.YtoekmdcldfmmcaaW.PrintWords Go.Proofs.YtoekmdcldfmmcaaW.PrintLast Go.Proofs.YtoekmdcldfmmcaaW.PrintMore
attribute [local go_sem] Oper.semAt_some Instr.field asAgg
set_option linter.unusedVariables false
set_option linter.unusedSimpArgs false
theorem stay_next {l : List S35} {m : List Int} {i : Nat} (h : i < m.length) (x : Int) : (x != rd m (i : Int) && stay l (m.take i) x) = stay l (m.take (i + 1)) x := by
  rw [take_next h, rd_get_int h]
  unfold stay
  rw [List.contains_eq_any_beq, List.contains_eq_any_beq]
  simp only [List.any_append, List.any_cons, List.any_nil, Bool.or_false, Bool.not_or, bne]
  cases pin l x <;> cases (List.take i m).any (fun a => x == a) <;> cases (x == m[i]) <;> rfl
end Go.Proofs.Ytoekmdcldfmmcaa.F
end
section
namespace Go.Proofs.Ytoekmdcldfmmcaa.F
open Go.RowKit Go.Proofs.YtoekmdcldfmmcaaW.PrintWords Go.Proofs.YtoekmdcldfmmcaaW.PrintLast Go.Proofs.YtoekmdcldfmmcaaW.PrintMore
attribute [local go_sem] Oper.semAt_some Instr.field asAgg
set_option linter.unusedVariables false
set_option linter.unusedSimpArgs false
theorem i64_next {i n : Nat} (h : i < n) (hn : n ≤ 64) : wrap64 ((i : Int) + 1) = ((i + 1 : Nat) : Int) := by unfold wrap64; omega
end Go.Proofs.Ytoekmdcldfmmcaa.F
end
section
namespace Go.Proofs.Ytoekmdcldfmmcaa.F
open Go.RowKit Go.Proofs.YtoekmdcldfmmcaaW.PrintWords Go.Proofs.YtoekmdcldfmmcaaW.PrintLast Go.Proofs.YtoekmdcldfmmcaaW.PrintMore
attribute [local go_sem] Oper.semAt_some Instr.field asAgg
set_option linter.unusedVariables false
set_option linter.unusedSimpArgs false
theorem slice_any' {w : World} {base : Nat} {ok : Nat → Prop} {v : Value} {l : List S35} (h : Kd.R k35 35 w base ok v l) : ∃ A n c, v = .slice A n c := by
  obtain ⟨A, c, e⟩ := Kd.R_slice h
  exact ⟨A, _, c, e⟩
end Go.Proofs.Ytoekmdcldfmmcaa.F
end
section
namespace Go.Proofs.Ytoekmdcldfmmcaa.F
open Go.RowKit Go.Proofs.YtoekmdcldfmmcaaW.PrintWords Go.Proofs.YtoekmdcldfmmcaaW.PrintLast Go.Proofs.YtoekmdcldfmmcaaW.PrintMore
attribute [local go_sem] Oper.semAt_some Instr.field asAgg
set_option linter.unusedVariables false
set_option linter.unusedSimpArgs false
theorem stay_elem {l : List S35} {m : List Int} {i : Nat} (h : i < l.length) : stay l m (rd_T35 l (i : Int)).f1 = !(m.contains (rd_T35 l (i : Int)).f1) := by
  unfold stay
  rw [show pin l (rd_T35 l (i : Int)).f1 = true from List.any_eq_true.mpr ⟨l[i], List.getElem_mem h, by rw [rd_get h]; simp⟩]
  simp
end Go.Proofs.Ytoekmdcldfmmcaa.F
end
section
namespace Go.Proofs.Ytoekmdcldfmmcaa.F
open Go.RowKit Go.Proofs.YtoekmdcldfmmcaaW.PrintWords Go.Proofs.YtoekmdcldfmmcaaW.PrintLast Go.Proofs.YtoekmdcldfmmcaaW.PrintMore
attribute [local go_sem] Oper.semAt_some Instr.field asAgg
set_option linter.unusedVariables false
set_option linter.unusedSimpArgs false
theorem filter_next {l : List S35} {p : S35 → Bool} {i : Nat} (h : i < l.length) : (l.take (i + 1)).filter p = (l.take i).filter p ++ (if p (rd_T35 l (i : Int)) then [rd_T35 l (i : Int)] else []) := by
  rw [take_next h, rd_get h, List.filter_append]
  congr 1
  by_cases hp : p l[i] <;> simp [hp]
end Go.Proofs.Ytoekmdcldfmmcaa.F
end
section
namespace Go.Proofs.Ytoekmdcldfmmcaa.F
open Go.RowKit Go.Proofs.YtoekmdcldfmmcaaW.PrintWords Go.Proofs.YtoekmdcldfmmcaaW.PrintLast Go.Proofs.YtoekmdcldfmmcaaW.PrintMore
attribute [local go_sem] Oper.semAt_some Instr.field asAgg
set_option linter.unusedVariables false
set_option linter.unusedSimpArgs false
theorem filter_len {l : List S35} {p : S35 → Bool} {i : Nat} (h : l.length ≤ 64) : ((l.take i).filter p).length ≤ 64 := by
  have := List.length_filter_le p (l.take i)
  have := List.length_take_le i l
  have : (l.take i).length ≤ l.length := by rw [List.length_take]; omega
  omega
end Go.Proofs.Ytoekmdcldfmmcaa.F
end
section
namespace Go.Proofs.Ytoekmdcldfmmcaa.F
open Go.RowKit Go.Proofs.YtoekmdcldfmmcaaW.PrintWords Go.Proofs.YtoekmdcldfmmcaaW.PrintLast Go.Proofs.YtoekmdcldfmmcaaW.PrintMore
attribute [local go_sem] Oper.semAt_some Instr.field asAgg
set_option linter.unusedVariables false
set_option linter.unusedSimpArgs false
set_option maxHeartbeats 4000000 in
set_option maxRecDepth 100000 in
theorem ring_Wipe.calls (a0_0 : Int) (a0_1 : Int) (A0_2 : Option Addr) (c0_2 : Nat) (l0_2 : List (S35)) (A1 : Option Addr) (c1 : Nat) (l1 : List Int) (r1 : Int) (r2 : Int) (r3 : List (S35)) (r4 : List (S35)) (r5 : Int) (w : World) (hr0_2 : Kd.C k35 w A0_2 l0_2.length l0_2) (hc0_2 : l0_2.length ≤ c0_2) (hr1 : Kd.C (Kd.int .i64) w A1 l1.length l1) (hc1 : l1.length ≤ c1) (h : ring_Wipe.f a0_0 a0_1 l0_2 l1 = some (r1, r2, r3, r4, r5)) :
    Calls Try.prog 17 #[.agg #[.int .i64 a0_0, .int .u64 a0_1, .slice A0_2 l0_2.length c0_2], .slice A1 l1.length c1] w fun e w' => ∃ v2_ v3_ : Value, e = .returned (.tuple #[.agg #[.int .i64 r1, .int .u64 r2, v2_], v3_, .int .i64 r5]) ∧ Kd.R k35 35 w' w.heap.size (fun k_ => some k_ ≠ (v3_ : Value).ownBlock) v2_ r3 ∧ Kd.R k35 35 w' w.heap.size (fun k_ => some k_ ≠ (v2_ : Value).ownBlock) v3_ r4 ∧ Below w.heap.size w w' := by
  have hu25 := Try.underlying25
  have hu35 := Try.underlying35
  have hu26 := Try.underlying26
  unfold ring_Wipe.f at h
  have h0 := Option.bind_eq_some_iff.mp h
  clear h
  obtain ⟨⟨e, e2⟩, he, h⟩ := h0
  have HE := Aside0.mk he
  have HR := Aside0.mk hr0_2
  have HC := Aside0.mk hc0_2
  have HR1 := Aside0.mk hr1
  clear he hr0_2 hr1 hc1 hc0_2
  dsimp only at h
  by_cases c : e = 0
  · subst c
    rw [if_pos rfl] at h
    by_cases k1 : l0_2.length ≤ 64
    case neg => rw [if_neg k1] at h; cases h
    rw [if_pos k1] at h
    by_cases k2 : l1.length ≤ 64
    case neg => rw [if_neg k2] at h; cases h
    rw [if_pos k2] at h
    by_cases k3 : l0_2.all (fun h => wfW h.f1) = true
    case neg => rw [if_neg k3] at h; cases h
    rw [if_pos k3] at h
    by_cases k4 : l1.all wfW = true
    case neg => rw [if_neg k4] at h; cases h
    rw [if_pos k4] at h
    simp only [Option.some.injEq, Prod.mk.injEq] at h
    obtain ⟨rfl, rfl, rfl, rfl, rfl⟩ := h
    have HL := Aside0.mk k1
    have HL1 := Aside0.mk k2
    have HW := Aside0.mk k3
    have HW1 := Aside0.mk k4
    clear k1 k2 k3 k4
    have hmm := @run_makeMap Try.prog
    go_enter Try.func17, Try.ntmps17
    go_wp2_with (go_at_call 23; refine (ring_Check.calls 4096 a0_0 a0_1 A0_2 c0_2 l0_2 0 e2 _ ?hr HC.out HE.out).mono ?_; (case hr => exact Kd.C_below HR.out (((Below.refl _ w).alloc (Nat.le_refl _) _).alloc (by simp) _)); rintro e w1 ⟨rfl, hbw⟩; have HS := Aside0.mk (show Two w w1 _ _ from Two.of hbw); obtain ⟨q0, q1, q2, q3, q4, q5⟩ := tri_cells HS.out.2.1; obtain ⟨q6, q7, q8, q9, q10, q11⟩ := tri_cells HS.out.2.2; have ql := blk_lt HS.out.2.1; have ql' := blk_lt HS.out.2.2; clear hbw)
    have HS0 := Aside0.mk (show St w (w1.alloc (.map #[] 0)) _ _ w1.heap.size 0 (fun _ => false) from ⟨HS.out.below (below_alloc (Below.refl _ _) _), seenI_made w1, ql'⟩)
    generalize w1.heap.size = mb at HS0 ⊢
    generalize w1.alloc (.map #[] 0) = w2 at HS0 ⊢
    clear q0 q1 q2 q3 q4 q5 q6 q7 q8 q9 q10 q11 ql ql' HS hmm
    go_loopg [31] l0_2.length (fun gg v31 wr => ∃ i : Nat, v31 = .int .i64 i ∧ i ≤ l0_2.length ∧ l0_2.length - i ≤ gg ∧ Aside0 (St w wr (.cells #[.int .i64 a0_0, .int .u64 a0_1, .slice A0_2 l0_2.length c0_2] 25) (.cells #[.int .i64 0, .int .u64 0, .slice none 0 0] 25) mb i (pin (l0_2.take i))))
    case atStart => exact ⟨0, by go_num, Nat.zero_le _, by omega, HS0⟩
    case round =>
      obtain ⟨i, rfl, hi, hgg, HS⟩ := hrel
      clear HS0
      by_cases hlt : i < l0_2.length
      · have hltd : decide ((i : Int) < (l0_2.length : Int)) = true := decide_eq_true (by omega)
        have p1 : (0 ≤ (i : Int)) = True := eq_true (by omega)
        have p2 : ((i : Int) < (l0_2.length : Int)) = True := eq_true (by omega)
        obtain ⟨ad, hA, y0, y1⟩ := at_T35 (Kd.C_below HR.out HS.out.1.1) (i : Int) (by omega) (by omega)
        subst hA
        rw [show ((i : Int)).toNat = i from rfl] at y0 y1
        have hmax : i < maxLen := by have := HL.out; unfold maxLen; omega
        have hwf := Aside0.mk (wf_pick HW.out hlt)
        go_wp2_with (at_mapUpdate; refine wpList_seenI_put _ rfl _ _ _ rfl mb i _ (HS.out.kept (below_alloc (Below.refl _ _) _)).2.1 _ hwf.out hmax rfl rfl rfl ?_; intro wd hs_ hgd; have HSd := Aside0.mk ((HS.out.kept (below_alloc (Below.refl _ _) _)).turned hgd (hs_.congr (fun x _ => pin_next hlt x))); clear hs_ hgd)
        have hl64 := HL.out
        go_roundg (l0_2.length - (i + 1))
        · exact ⟨i + 1, congrArg (Value.int .i64) (i64_next hlt hl64), by omega, Nat.le_refl _, HSd⟩
        · omega
      · obtain rfl : i = l0_2.length := by omega
        have hltd : decide ((l0_2.length : Int) < (l0_2.length : Int)) = false := decide_eq_false (by omega)
        have HS1 := Aside0.mk (show St w wr (.cells #[.int .i64 a0_0, .int .u64 a0_1, .slice A0_2 l0_2.length c0_2] 25) (.cells #[.int .i64 0, .int .u64 0, .slice none 0 0] 25) mb l0_2.length (stay l0_2 (l1.take 0)) from ⟨HS.out.1, HS.out.2.1.congr (fun x _ => by simp [stay]), HS.out.2.2⟩)
        clear HS hlt hi hgg
        go_wp2
        go_loopg [41] l1.length (fun gg v41 wr => ∃ i : Nat, v41 = .int .i64 i ∧ i ≤ l1.length ∧ l1.length - i ≤ gg ∧ Aside0 (St w wr (.cells #[.int .i64 a0_0, .int .u64 a0_1, .slice A0_2 l0_2.length c0_2] 25) (.cells #[.int .i64 0, .int .u64 0, .slice none 0 0] 25) mb l0_2.length (stay l0_2 (l1.take i))))
        case atStart => exact ⟨0, by go_num, Nat.zero_le _, by omega, HS1⟩
        case round =>
          obtain ⟨i, rfl, hi, hgg, HS⟩ := hrel
          clear HS1
          by_cases hlt : i < l1.length
          · have hltd : decide ((i : Int) < (l1.length : Int)) = true := decide_eq_true (by omega)
            have p1 : (0 ≤ (i : Int)) = True := eq_true (by omega)
            have p2 : ((i : Int) < (l1.length : Int)) = True := eq_true (by omega)
            obtain ⟨ad, hA, y0⟩ := Kd.at_int (Kd.C_below HR1.out HS.out.1.1) (i : Int) (by omega) (by omega)
            subst hA
            rw [show ((i : Int)).toNat = i from rfl] at y0
            have hwf := Aside0.mk (wf_pick_int HW1.out hlt)
            go_wp2_with (at_delete; refine wpList_seenI_del _ rfl _ _ rfl mb _ _ HS.out.2.1 _ hwf.out rfl rfl ?_; intro wd hs_ hgd; have HSd := Aside0.mk (HS.out.turned hgd (hs_.congr (fun x _ => stay_next hlt x))); clear hs_ hgd)
            have hl64 := HL1.out
            go_roundg (l1.length - (i + 1))
            · exact ⟨i + 1, congrArg (Value.int .i64) (i64_next hlt hl64), by omega, Nat.le_refl _, HSd⟩
            · omega
          · obtain rfl : i = l1.length := by omega
            have hltd2 : decide ((l1.length : Int) < (l1.length : Int)) = false := decide_eq_false (by omega)
            have HS1 := Aside0.mk (show St w wr (.cells #[.int .i64 a0_0, .int .u64 a0_1, .slice A0_2 l0_2.length c0_2] 25) (.cells #[.int .i64 0, .int .u64 0, .slice none 0 0] 25) mb l0_2.length (stay l0_2 l1) from by have := HS.out; rwa [List.take_length] at this)
            obtain ⟨q0, q1, q2, q3, q4, q5⟩ := tri_cells HS1.out.1.2.1
            clear HS hlt hi hgg hltd
            go_wp2
            clear q0 q1 q2 q3 q4 q5 hltd2
            go_loopg [14, 15, 51] l0_2.length (fun gg v14 v15 v51 wr => ∃ (i : Nat), v51 = .int .i64 i ∧ i ≤ l0_2.length ∧ l0_2.length - i ≤ gg ∧ Aside0 (Kd.R k35 35 wr w.heap.size (fun k => mb < k ∧ some k ≠ (v15 : Value).ownBlock) v14 ((l0_2.take i).filter (fun h => !(l1.contains h.f1)))) ∧ Aside0 (Kd.R k35 35 wr w.heap.size (fun k => mb < k ∧ some k ≠ (v14 : Value).ownBlock) v15 ((l0_2.take i).filter (fun h => l1.contains h.f1))) ∧ Aside0 (St w wr (.cells #[.int .i64 a0_0, .int .u64 a0_1, .slice A0_2 l0_2.length c0_2] 25) (.cells #[.int .i64 0, .int .u64 0, .slice none 0 0] 25) mb l0_2.length (stay l0_2 l1)))
            case atStart => exact ⟨0, by go_num, Nat.zero_le _, by omega, ⟨Kd.R_nil _ _ _ _ _⟩, ⟨Kd.R_nil _ _ _ _ _⟩, HS1⟩
            case round =>
              obtain ⟨i, rfl, hi, hgg, HOA, HOB, HS⟩ := hrel
              clear HS1
              by_cases hlt : i < l0_2.length
              · have hltd : decide ((i : Int) < (l0_2.length : Int)) = true := decide_eq_true (by omega)
                have p1 : (0 ≤ (i : Int)) = True := eq_true (by omega)
                have p2 : ((i : Int) < (l0_2.length : Int)) = True := eq_true (by omega)
                obtain ⟨ad, hA, z0, z1⟩ := at_T35 (Kd.C_below HR.out HS.out.1.1) (i : Int) (by omega) (by omega)
                subst hA
                rw [show ((i : Int)).toNat = i from rfl] at z0 z1
                have hwf := wf_pick HW.out hlt
                have hst := stay_elem (m := l1) hlt
                have hfk := filter_next (p := fun h => !(l1.contains h.f1)) hlt
                have hfg := filter_next (p := fun h => l1.contains h.f1) hlt
                obtain ⟨y0, y1, hy⟩ : ∃ y0 y1, rd_T35 l0_2 (i : Int) = ⟨y0, y1⟩ := ⟨_, _, rfl⟩
                rw [hy] at z0 z1 hwf hst hfk hfg
                have HSa := Aside0.mk (HS.out.kept (below_alloc (Below.refl _ _) (.cells #[.int .u64 y0, .int .i64 y1] 35)))
                have hlk := (seenI_lookup HSa.out.2.1 hwf (Try.zeroValue4 _))
                have hl64 := HL.out
                by_cases hc : l1.contains y1 = true
                · rw [hst, show ((⟨y0, y1⟩ : S35)).f1 = y1 from rfl, hc] at hlk
                  have HFk := Aside0.mk (show (l0_2.take (i + 1)).filter (fun h => !(l1.contains h.f1)) = ((l0_2.take i).filter (fun h => !(l1.contains h.f1))) from by rw [hfk]; simp only [hc]; simp)
                  have HFg := Aside0.mk (show (l0_2.take (i + 1)).filter (fun h => l1.contains h.f1) = ((l0_2.take i).filter (fun h => l1.contains h.f1)) ++ [⟨y0, y1⟩] from by rw [hfg]; simp only [hc]; simp)
                  clear hfk hfg hst hy hwf hc
                  have HI := Aside0.mk hi
                  have HG := Aside0.mk hgg
                  have HT := Aside0.mk hlt
                  have HL64 := Aside0.mk hl64
                  clear hi hgg hlt hl64
                  go_wp2_with ((with_reducible refine gate_builtin (b := .append) (xs := #[.tmp 63, .tmp 65]) rfl ?_); at_builtin; refine Kd.R_append k35 (w0 := w) w.heap.size rfl (.tmp 63) (.tmp 65) 23 35 (.agg #[.int .u64 0, .int .i64 0]) 16 rfl Try.underlying23 info35 rfl (by decide) (by omega) u15 ((l0_2.take i).filter (fun h => l1.contains h.f1)) ⟨y0, y1⟩ [.int .u64 y0, .int .i64 y1] (fun k => mb < k ∧ some k ≠ (u14 : Value).ownBlock) (fun _ => False) rfl (by rw [World.size_alloc]; rfl) ?aP (fun _ hk => hk.elim) ?aF ?aO ?aB ?aS ?aL ?_; (case aP => exact k35_mkM _ _ _ (⟨y0, y1⟩ : S35)); (case aB => exact HSa.out.1.1); (case aF => exact fun k hk => ⟨Nat.lt_of_lt_of_le HSa.out.2.1.lt hk, Kd.fresh' (Kd.R_lt (Kd.R_alloc HOA.out _)) k hk⟩); (case aO => exact Kd.R_alloc HOB.out _); (case aS => exact HSa.out.1.1.size); (case aL => have := filter_len (p := fun h => l1.contains h.f1) (i := i) HL.out; omega); intro v9 w9 ho hb hg hat; have HSn := Aside0.mk (HSa.out.row hg (fun k hk => (HOB.out.1 k hk).1)); have HOn := Aside0.mk ho; have HPn := Aside0.mk (Kd.R_after (ok := fun k => mb < k) (Kd.R_alloc HOA.out _) hg hat); clear ho hb hg hat)
                  go_roundg (l0_2.length - (i + 1))
                  · exact ⟨i + 1, congrArg (Value.int .i64) (i64_next HT.out HL64.out), HT.out, Nat.le_refl _, ⟨by rw [HFk.out]; exact HPn.out⟩, ⟨by rw [HFg.out]; exact HOn.out⟩, HSn⟩
                  · have := HG.out; have := HT.out; omega
                · have hc' : l1.contains y1 = false := by simpa using hc
                  rw [hst, show ((⟨y0, y1⟩ : S35)).f1 = y1 from rfl, hc'] at hlk
                  have HFk := Aside0.mk (show (l0_2.take (i + 1)).filter (fun h => !(l1.contains h.f1)) = ((l0_2.take i).filter (fun h => !(l1.contains h.f1))) ++ [⟨y0, y1⟩] from by rw [hfk]; simp only [hc']; simp)
                  have HFg := Aside0.mk (show (l0_2.take (i + 1)).filter (fun h => l1.contains h.f1) = ((l0_2.take i).filter (fun h => l1.contains h.f1)) from by rw [hfg]; simp only [hc']; simp)
                  clear hfk hfg hst hy hwf hc hc'
                  have HI := Aside0.mk hi
                  have HG := Aside0.mk hgg
                  have HT := Aside0.mk hlt
                  have HL64 := Aside0.mk hl64
                  clear hi hgg hlt hl64
                  go_wp2_with ((with_reducible refine gate_builtin (b := .append) (xs := #[.tmp 59, .tmp 61]) rfl ?_); at_builtin; refine Kd.R_append k35 (w0 := w) w.heap.size rfl (.tmp 59) (.tmp 61) 23 35 (.agg #[.int .u64 0, .int .i64 0]) 16 rfl Try.underlying23 info35 rfl (by decide) (by omega) u14 ((l0_2.take i).filter (fun h => !(l1.contains h.f1))) ⟨y0, y1⟩ [.int .u64 y0, .int .i64 y1] (fun k => mb < k ∧ some k ≠ (u15 : Value).ownBlock) (fun _ => False) rfl (by rw [World.size_alloc]; rfl) ?aP (fun _ hk => hk.elim) ?aF ?aO ?aB ?aS ?aL ?_; (case aP => exact k35_mkM _ _ _ (⟨y0, y1⟩ : S35)); (case aB => exact HSa.out.1.1); (case aF => exact fun k hk => ⟨Nat.lt_of_lt_of_le HSa.out.2.1.lt hk, Kd.fresh' (Kd.R_lt (Kd.R_alloc HOB.out _)) k hk⟩); (case aO => exact Kd.R_alloc HOA.out _); (case aS => exact HSa.out.1.1.size); (case aL => have := filter_len (p := fun h => !(l1.contains h.f1)) (i := i) HL.out; omega); intro v9 w9 ho hb hg hat; have HSn := Aside0.mk (HSa.out.row hg (fun k hk => (HOA.out.1 k hk).1)); have HOn := Aside0.mk ho; have HPn := Aside0.mk (Kd.R_after (ok := fun k => mb < k) (Kd.R_alloc HOB.out _) hg hat); clear ho hb hg hat)
                  go_roundg (l0_2.length - (i + 1))
                  · exact ⟨i + 1, congrArg (Value.int .i64) (i64_next HT.out HL64.out), HT.out, Nat.le_refl _, ⟨by rw [HFk.out]; exact HOn.out⟩, ⟨by rw [HFg.out]; exact HPn.out⟩, HSn⟩
                  · have := HG.out; have := HT.out; omega
              · obtain rfl : i = l0_2.length := by omega
                have hltd : decide ((l0_2.length : Int) < (l0_2.length : Int)) = false := decide_eq_false (by omega)
                obtain ⟨q0, q1, q2, q3, q4, q5⟩ := tri_cells HS.out.1.2.1
                obtain ⟨q6, q7, q8, q9, q10, q11⟩ := tri_cells HS.out.1.2.2
                have ql := blk_lt HS.out.1.2.1
                have ql' := blk_lt HS.out.1.2.2
                have hka := HOA.out
                have hkb := HOB.out
                rw [List.take_length] at hka hkb
                have HKA := Aside0.mk hka
                have HKB := Aside0.mk hkb
                obtain ⟨A9, n9, c9, ea⟩ := slice_any' hka
                subst ea
                clear hka hkb HOA HOB hlt hi hgg
                go_wp2
                have f0 : ∀ k, (mb < k ∧ some k ≠ (u15 : Value).ownBlock) → k ≠ w.heap.size := fun k hk => by have := hk.1; have := HS.out.2.2; omega
                have f1 : ∀ k, (mb < k ∧ some k ≠ (u15 : Value).ownBlock) → k ≠ w.heap.size + 1 := fun k hk => by have := hk.1; have := HS.out.2.2; omega
                have g0 : ∀ k, (mb < k ∧ some k ≠ (Value.slice A9 n9 c9).ownBlock) → k ≠ w.heap.size := fun k hk => by have := hk.1; have := HS.out.2.2; omega
                have g1 : ∀ k, (mb < k ∧ some k ≠ (Value.slice A9 n9 c9).ownBlock) → k ≠ w.heap.size + 1 := fun k hk => by have := hk.1; have := HS.out.2.2; omega
                have hRA := Kd.R_far (p := ⟨w.heap.size + 1, 2, none⟩) (Kd.R_far (p := ⟨w.heap.size + 1, 1, none⟩) (Kd.R_far (p := ⟨w.heap.size + 1, 0, none⟩) (Kd.R_far (p := ⟨w.heap.size, 2, none⟩) HKA.out f0 (.slice A9 n9 c9)) f1 (.int .i64 a0_0)) f1 (.int .u64 a0_1)) f1 (.slice A9 n9 c9)
                have hRB := Kd.R_far (p := ⟨w.heap.size + 1, 2, none⟩) (Kd.R_far (p := ⟨w.heap.size + 1, 1, none⟩) (Kd.R_far (p := ⟨w.heap.size + 1, 0, none⟩) (Kd.R_far (p := ⟨w.heap.size, 2, none⟩) HKB.out g0 (.slice A9 n9 c9)) g1 (.int .i64 a0_0)) g1 (.int .u64 a0_1)) g1 (.slice A9 n9 c9)
                exact bodyPost_ret (results_ctt rfl _ _ (w.heap.size + 1) 25 #[.int .i64 a0_0, .int .u64 a0_1, .slice A9 n9 c9] (0, 0) _ rfl (blk_put (blk_put (blk_put (blk_far (p := ⟨w.heap.size, 2, none⟩) HS.out.1.2.2 (show w.heap.size + 1 ≠ w.heap.size by omega) _) 0 _ rfl) 1 _ rfl) 2 _ rfl) hu25 rfl (by kernel_rfl)) rfl ⟨_, _, rfl, Kd.R_mono hRA (fun _ hk => hk.2), Kd.R_mono hRB (fun _ hk => hk.2), (((HS.out.1.1.setCell (p := ⟨w.heap.size, 2, none⟩) (Nat.le_refl _) _).setCell (p := ⟨w.heap.size + 1, 0, none⟩) (Nat.le_succ _) _).setCell (p := ⟨w.heap.size + 1, 1, none⟩) (Nat.le_succ _) _).setCell (p := ⟨w.heap.size + 1, 2, none⟩) (Nat.le_succ _) _⟩
  · rw [if_neg c] at h
    have cb : (e != 0) = true := bne_iff_ne.mpr c
    clear c
    simp only [Option.some.injEq, Prod.mk.injEq] at h
    obtain ⟨rfl, rfl, rfl, rfl, rfl⟩ := h
    go_enter Try.func17, Try.ntmps17
    go_wp2_with (go_at_call 23; refine (ring_Check.calls 4096 a0_0 a0_1 A0_2 c0_2 l0_2 e e2 _ ?hr HC.out HE.out).mono ?_; (case hr => exact Kd.C_below HR.out (((Below.refl _ w).alloc (Nat.le_refl _) _).alloc (by simp) _)); rintro e w1 ⟨rfl, hbw⟩; have HS := Aside0.mk (show Two w w1 _ _ from Two.of hbw); obtain ⟨q0, q1, q2, q3, q4, q5⟩ := tri_cells HS.out.2.1; obtain ⟨q6, q7, q8, q9, q10, q11⟩ := tri_cells HS.out.2.2; have ql := blk_lt HS.out.2.1; have ql' := blk_lt HS.out.2.2; clear hbw)
    exact bodyPost_ret (results_ctt rfl _ _ (w.heap.size + 1) 25 #[.int .i64 0, .int .u64 0, .slice none 0 0] (0, 0) _ rfl (blk_put (blk_put (blk_put HS.out.2.2 0 _ rfl) 1 _ rfl) 2 _ rfl) hu25 rfl (by kernel_rfl)) rfl ⟨_, _, rfl, Kd.R_nil _ _ _ _ _, Kd.R_nil _ _ _ _ _, ((HS.out.1.setCell (p := ⟨w.heap.size + 1, 0, none⟩) (Nat.le_succ _) _).setCell (p := ⟨w.heap.size + 1, 1, none⟩) (Nat.le_succ _) _).setCell (p := ⟨w.heap.size + 1, 2, none⟩) (Nat.le_succ _) _⟩

end Go.Proofs.Ytoekmdcldfmmcaa.F
end
section
-- Written by fork.py (this session's program over the kit's print.py). Not trusted: Lean checks it.
namespace Go.Proofs.Ytoekmdcldfmmcaa.F
open Go.RowKit Go.Proofs.YtoekmdcldfmmcaaW.PrintWords Go.Proofs.YtoekmdcldfmmcaaW.PrintLast Go.Proofs.YtoekmdcldfmmcaaW.PrintMore
attribute [local go_sem] max2_int min2_int max_two min_two max_three min_three max_four min_four
set_option linter.unusedVariables false
set_option linter.unusedSimpArgs false

attribute [local go_sem high] eqA35
/-! ### L05_awake: function 9 -/
def L05_awake.f (k : Nat)  : Option (Bool) := (L05_after.f k).bind fun bt183 => ((ring_First.f bt183.1 bt183.2.1 bt183.2.2.1 7).bind fun bt190 => ((ring_Find.f bt183.1 bt183.2.1 bt183.2.2.1 4).bind fun bt194 => ((ring_Wipe.f bt183.1 bt183.2.1 bt183.2.2.1 (([7, 5] : List Int))).bind fun bt199 => (if bt183.2.2.2 = true then (if bt190.2.2 = 0 then (if (bt190.1 == 1 && (bt190.2.1 == 7)) = true then (if bt194.2 = 0 then (if bt194.1 = 2 then (if bt199.2.2.2.2 = 0 then ((L05_held.f k (([4, 9] : List Int))).bind fun t212 => ((K_SameHeld.f k bt199.2.2.1 t212).bind fun t215 => (if t215 = true then ((L05_held.f k (([1, 7, 3, 7] : List Int))).bind fun t219 => ((K_SameHeld.f k bt199.2.2.2.1 t219).bind fun t222 => (some t222))) else (some false)))) else (some false)) else (some false)) else (some false)) else (some false)) else (some false)) else (some false)))))
theorem L05_awake.mono : ∀ k, LeO (L05_awake.f k ) (L05_awake.f (k + 1) ) := by
  intro  k
  unfold L05_awake.f
  repeat' first
      | (with_reducible exact K_SameHeld.mono _ _ _)
      | (with_reducible exact L05_after.mono _)
      | (with_reducible exact L05_held.mono _ _)
      | (with_reducible exact LeO.refl _)
      | (with_reducible exact LeO.none _)
      | (with_reducible refine LeO.ite ?_ ?_)
      | (with_reducible refine LeO.bind ?_ (fun _ => ?_))
      | exact K_SameHeld.mono _ _ _
      | exact L05_after.mono _
      | exact L05_held.mono _ _
      | exact LeO.none _
      | refine LeO.ite ?_ ?_
      | refine LeO.bind ?_ (fun _ => ?_)
def L05_awake.T5 : Bool × List (List Nat × List Nat) := (true, [([], []), ([0], [0]), ([1], [1]), ([2, 1], [1, 2]), ([1, 3], [1, 3]), ([4, 1], [4]), ([5], [5]), ([5], [5]), ([6, 7, 5], [5, 6, 7]), ([5, 8], [5, 8]), ([9, 5], [9]), ([10], [10]), ([11, 10], [10, 11]), ([10, 12], [10, 12]), ([13, 10], [13]), ([14], [14]), ([15, 14], [14, 15]), ([14, 16], [14, 16]), ([17, 14], [17]), ([18], [18]), ([19, 18], [18, 19]), ([18, 20], [18, 20]), ([21, 18], [21]), ([22], [22]), ([23, 22], [22, 23]), ([22], [22]), ([25, 22, 22], [22, 25]), ([24, 26, 26, 22], [22, 24, 26]), ([22, 27], [22, 27]), ([28, 27], [28]), ([29], [29]), ([29], [29]), ([31, 29, 29], [29, 31]), ([30, 32, 32, 29], [29, 30, 32]), ([29, 33], [29, 33]), ([34, 33, 0, 1, 2, 3, 4, 5, 6, 7, 8, 9, 10, 11, 12, 13, 14, 15, 16, 17, 18, 19, 20, 21, 22, 23, 24, 25, 26, 27, 28, 29, 30, 31, 32, 33, 34], [34])])
def L05_awake.B5 : List Nat := [0, 1, 3, 7, 15, 31, 63, 63, 255, 511, 1023, 2047, 4095, 8191, 16383, 32767, 65535, 131071, 262143, 524287, 1048575, 2097151, 4194303, 8388607, 16777215, 8388607, 41943039, 134217727, 268435455, 536870911, 1073741823, 1073741823, 3221225471, 8589934591, 17179869183, 34359738367]
theorem L05_awake.tab5 : rtab .any (opsOf Try.f9 5) = L05_awake.T5 := by kernel_rfl
theorem L05_awake.bits5 : waitsOk L05_awake.T5.2 L05_awake.B5 = true := by kernel_rfl
set_option maxHeartbeats 8000000 in
set_option maxRecDepth 100000 in
theorem L05_awake.calls (k : Nat)  (r : Bool) (w : World) (h : L05_awake.f k  = some r) (ht_ : r = true := by rfl) :
    Calls Try.prog 9 #[] w fun e w' => e = .returned (.bool r) ∧ Below w.heap.size w w' := by
  subst ht_
  have hu25 := Try.underlying25
  have hu35 := Try.underlying35
  have HB := Aside0.mk (Below.refl w.heap.size w)
  have H : ((L05_after.f k).bind fun bt183 => ((ring_First.f bt183.1 bt183.2.1 bt183.2.2.1 7).bind fun bt190 => ((ring_Find.f bt183.1 bt183.2.1 bt183.2.2.1 4).bind fun bt194 => ((ring_Wipe.f bt183.1 bt183.2.1 bt183.2.2.1 (([7, 5] : List Int))).bind fun bt199 => (if bt183.2.2.2 = true then (if bt190.2.2 = 0 then (if (bt190.1 == 1 && (bt190.2.1 == 7)) = true then (if bt194.2 = 0 then (if bt194.1 = 2 then (if bt199.2.2.2.2 = 0 then ((L05_held.f k (([4, 9] : List Int))).bind fun t212 => ((K_SameHeld.f k bt199.2.2.1 t212).bind fun t215 => (if t215 = true then ((L05_held.f k (([1, 7, 3, 7] : List Int))).bind fun t219 => ((K_SameHeld.f k bt199.2.2.2.1 t219).bind fun t222 => (some t222))) else (some false)))) else (some false)) else (some false)) else (some false)) else (some false)) else (some false)) else (some false)))))) = some true := h
  clear h
  replace H := Option.bind_eq_some_iff.mp H
  obtain ⟨⟨t183, t184, t185, t188⟩, A10, H⟩ := H
  replace H : ((ring_First.f t183 t184 t185 7).bind fun bt190 => ((ring_Find.f t183 t184 t185 4).bind fun bt194 => ((ring_Wipe.f t183 t184 t185 (([7, 5] : List Int))).bind fun bt199 => (if t188 = true then (if bt190.2.2 = 0 then (if (bt190.1 == 1 && (bt190.2.1 == 7)) = true then (if bt194.2 = 0 then (if bt194.1 = 2 then (if bt199.2.2.2.2 = 0 then ((L05_held.f k (([4, 9] : List Int))).bind fun t212 => ((K_SameHeld.f k bt199.2.2.1 t212).bind fun t215 => (if t215 = true then ((L05_held.f k (([1, 7, 3, 7] : List Int))).bind fun t219 => ((K_SameHeld.f k bt199.2.2.2.1 t219).bind fun t222 => (some t222))) else (some false)))) else (some false)) else (some false)) else (some false)) else (some false)) else (some false)) else (some false))))) = some true := H
  have A1 := Aside0.mk A10
  clear A10
  replace H := Option.bind_eq_some_iff.mp H
  obtain ⟨⟨t190, t191, t192⟩, A20, H⟩ := H
  replace H : ((ring_Find.f t183 t184 t185 4).bind fun bt194 => ((ring_Wipe.f t183 t184 t185 (([7, 5] : List Int))).bind fun bt199 => (if t188 = true then (if t192 = 0 then (if (t190 == 1 && (t191 == 7)) = true then (if bt194.2 = 0 then (if bt194.1 = 2 then (if bt199.2.2.2.2 = 0 then ((L05_held.f k (([4, 9] : List Int))).bind fun t212 => ((K_SameHeld.f k bt199.2.2.1 t212).bind fun t215 => (if t215 = true then ((L05_held.f k (([1, 7, 3, 7] : List Int))).bind fun t219 => ((K_SameHeld.f k bt199.2.2.2.1 t219).bind fun t222 => (some t222))) else (some false)))) else (some false)) else (some false)) else (some false)) else (some false)) else (some false)) else (some false)))) = some true := H
  have A2 := Aside0.mk A20
  clear A20
  replace H := Option.bind_eq_some_iff.mp H
  obtain ⟨⟨t194, t195⟩, A30, H⟩ := H
  replace H : ((ring_Wipe.f t183 t184 t185 (([7, 5] : List Int))).bind fun bt199 => (if t188 = true then (if t192 = 0 then (if (t190 == 1 && (t191 == 7)) = true then (if t195 = 0 then (if t194 = 2 then (if bt199.2.2.2.2 = 0 then ((L05_held.f k (([4, 9] : List Int))).bind fun t212 => ((K_SameHeld.f k bt199.2.2.1 t212).bind fun t215 => (if t215 = true then ((L05_held.f k (([1, 7, 3, 7] : List Int))).bind fun t219 => ((K_SameHeld.f k bt199.2.2.2.1 t219).bind fun t222 => (some t222))) else (some false)))) else (some false)) else (some false)) else (some false)) else (some false)) else (some false)) else (some false))) = some true := H
  have A3 := Aside0.mk A30
  clear A30
  obtain ⟨y196, hy196⟩ : ∃ y_ : List Int, y_ = (([7, 5] : List Int)) := ⟨_, rfl⟩
  replace H : ((ring_Wipe.f t183 t184 t185 y196).bind fun bt199 => (if t188 = true then (if t192 = 0 then (if (t190 == 1 && (t191 == 7)) = true then (if t195 = 0 then (if t194 = 2 then (if bt199.2.2.2.2 = 0 then ((L05_held.f k (([4, 9] : List Int))).bind fun t212 => ((K_SameHeld.f k bt199.2.2.1 t212).bind fun t215 => (if t215 = true then ((L05_held.f k (([1, 7, 3, 7] : List Int))).bind fun t219 => ((K_SameHeld.f k bt199.2.2.2.1 t219).bind fun t222 => (some t222))) else (some false)))) else (some false)) else (some false)) else (some false)) else (some false)) else (some false)) else (some false))) = some true := by first | (rw [hy196]; with_reducible exact H) | (have H2_ := (Option.bind_some _ _).symm.trans H; rw [hy196]; with_reducible exact H2_) | (have H2_ := (Option.bind_some _ _).symm.trans H; with_reducible exact H2_) | with_reducible exact H | (rw [hy196]; exact H) | exact H
  have Ny196 := Aside0.mk hy196
  clear hy196
  replace H := Option.bind_eq_some_iff.mp H
  obtain ⟨⟨t199, t200, t201, t204, t207⟩, A40, H⟩ := H
  replace H : (if t188 = true then (if t192 = 0 then (if (t190 == 1 && (t191 == 7)) = true then (if t195 = 0 then (if t194 = 2 then (if t207 = 0 then ((L05_held.f k (([4, 9] : List Int))).bind fun t212 => ((K_SameHeld.f k t201 t212).bind fun t215 => (if t215 = true then ((L05_held.f k (([1, 7, 3, 7] : List Int))).bind fun t219 => ((K_SameHeld.f k t204 t219).bind fun t222 => (some t222))) else (some false)))) else (some false)) else (some false)) else (some false)) else (some false)) else (some false)) else (some false)) = some true := H
  have A4 := Aside0.mk A40
  clear A40
  by_cases c5 : t188 = true
  rotate_left
  · replace c5 := Bool.eq_false_iff.mpr c5
    subst c5
    have H1 : (some false) = some true := by rw [if_neg (show ¬ (false = true) by decide)] at H; exact H
    clear H
    have H := H1
    clear H1
    exact absurd H (by repeat (first | exact never_none | exact never_false | refine never_ite ?_ ?_ | refine never_bind (fun _ => ?_)))
  subst c5
  have H1 : (if t192 = 0 then (if (t190 == 1 && (t191 == 7)) = true then (if t195 = 0 then (if t194 = 2 then (if t207 = 0 then ((L05_held.f k (([4, 9] : List Int))).bind fun t212 => ((K_SameHeld.f k t201 t212).bind fun t215 => (if t215 = true then ((L05_held.f k (([1, 7, 3, 7] : List Int))).bind fun t219 => ((K_SameHeld.f k t204 t219).bind fun t222 => (some t222))) else (some false)))) else (some false)) else (some false)) else (some false)) else (some false)) else (some false)) = some true := by rw [if_pos rfl] at H; exact H
  clear H
  have H := H1
  clear H1
  by_cases c6 : t192 = 0
  rotate_left
  · rw [if_neg c6] at H
    exact absurd H (by repeat (first | exact never_none | exact never_false | refine never_ite ?_ ?_ | refine never_bind (fun _ => ?_)))
  rw [if_pos c6] at H
  have c6b0 : (t192 == 0) = true := beq_iff_eq.mpr c6
  have c6b1 : (t192 != 0) = false := bne_eq_false_iff_eq.mpr c6
  clear c6
  by_cases c7 : (t190 == 1 && (t191 == 7)) = true
  rotate_left
  · rw [if_neg c7] at H
    exact absurd H (by repeat (first | exact never_none | exact never_false | refine never_ite ?_ ?_ | refine never_bind (fun _ => ?_)))
  rw [if_pos c7] at H
  have c7b0 : (t190 == 1 && (t191 == 7)) = true := c7
  (try (have c7b1 : decide (t190 = 1 && (t191 == 7)) = true := by simpa using c7))
  (try (have c7b2 : (t190 == 1 && (t191 == 7)) = true := by simpa using c7))
  clear c7
  by_cases c8 : t195 = 0
  rotate_left
  · rw [if_neg c8] at H
    exact absurd H (by repeat (first | exact never_none | exact never_false | refine never_ite ?_ ?_ | refine never_bind (fun _ => ?_)))
  rw [if_pos c8] at H
  have c8b0 : (t195 == 0) = true := beq_iff_eq.mpr c8
  have c8b1 : (t195 != 0) = false := bne_eq_false_iff_eq.mpr c8
  clear c8
  by_cases c9 : t194 = 2
  rotate_left
  · rw [if_neg c9] at H
    exact absurd H (by repeat (first | exact never_none | exact never_false | refine never_ite ?_ ?_ | refine never_bind (fun _ => ?_)))
  rw [if_pos c9] at H
  have c9b0 : (t194 == 2) = true := beq_iff_eq.mpr c9
  have c9b1 : (t194 != 2) = false := bne_eq_false_iff_eq.mpr c9
  clear c9
  by_cases c10 : t207 = 0
  rotate_left
  · rw [if_neg c10] at H
    exact absurd H (by repeat (first | exact never_none | exact never_false | refine never_ite ?_ ?_ | refine never_bind (fun _ => ?_)))
  rw [if_pos c10] at H
  have c10b0 : (t207 == 0) = true := beq_iff_eq.mpr c10
  have c10b1 : (t207 != 0) = false := bne_eq_false_iff_eq.mpr c10
  clear c10
  obtain ⟨y209, hy209⟩ : ∃ y_ : List Int, y_ = (([4, 9] : List Int)) := ⟨_, rfl⟩
  replace H : ((L05_held.f k y209).bind fun t212 => ((K_SameHeld.f k t201 t212).bind fun t215 => (if t215 = true then ((L05_held.f k (([1, 7, 3, 7] : List Int))).bind fun t219 => ((K_SameHeld.f k t204 t219).bind fun t222 => (some t222))) else (some false)))) = some true := by first | (rw [hy209]; with_reducible exact H) | (have H2_ := (Option.bind_some _ _).symm.trans H; rw [hy209]; with_reducible exact H2_) | (have H2_ := (Option.bind_some _ _).symm.trans H; with_reducible exact H2_) | with_reducible exact H | (rw [hy209]; exact H) | exact H
  have Ny209 := Aside0.mk hy209
  clear hy209
  replace H := Option.bind_eq_some_iff.mp H
  obtain ⟨t212, A110, H⟩ := H
  replace H : ((K_SameHeld.f k t201 t212).bind fun t215 => (if t215 = true then ((L05_held.f k (([1, 7, 3, 7] : List Int))).bind fun t219 => ((K_SameHeld.f k t204 t219).bind fun t222 => (some t222))) else (some false))) = some true := H
  have A11 := Aside0.mk A110
  clear A110
  replace H := Option.bind_eq_some_iff.mp H
  obtain ⟨t215, A120, H⟩ := H
  replace H : (if t215 = true then ((L05_held.f k (([1, 7, 3, 7] : List Int))).bind fun t219 => ((K_SameHeld.f k t204 t219).bind fun t222 => (some t222))) else (some false)) = some true := H
  have A12 := Aside0.mk A120
  clear A120
  by_cases c13 : t215 = true
  rotate_left
  · replace c13 := Bool.eq_false_iff.mpr c13
    subst c13
    have H1 : (some false) = some true := by rw [if_neg (show ¬ (false = true) by decide)] at H; exact H
    clear H
    have H := H1
    clear H1
    exact absurd H (by repeat (first | exact never_none | exact never_false | refine never_ite ?_ ?_ | refine never_bind (fun _ => ?_)))
  subst c13
  have H1 : ((L05_held.f k (([1, 7, 3, 7] : List Int))).bind fun t219 => ((K_SameHeld.f k t204 t219).bind fun t222 => (some t222))) = some true := by rw [if_pos rfl] at H; exact H
  clear H
  have H := H1
  clear H1
  obtain ⟨y216, hy216⟩ : ∃ y_ : List Int, y_ = (([1, 7, 3, 7] : List Int)) := ⟨_, rfl⟩
  replace H : ((L05_held.f k y216).bind fun t219 => ((K_SameHeld.f k t204 t219).bind fun t222 => (some t222))) = some true := by first | (rw [hy216]; with_reducible exact H) | (have H2_ := (Option.bind_some _ _).symm.trans H; rw [hy216]; with_reducible exact H2_) | (have H2_ := (Option.bind_some _ _).symm.trans H; with_reducible exact H2_) | with_reducible exact H | (rw [hy216]; exact H) | exact H
  have Ny216 := Aside0.mk hy216
  clear hy216
  replace H := Option.bind_eq_some_iff.mp H
  obtain ⟨t219, A140, H⟩ := H
  replace H : ((K_SameHeld.f k t204 t219).bind fun t222 => (some t222)) = some true := H
  have A14 := Aside0.mk A140
  clear A140
  replace H := Option.bind_eq_some_iff.mp H
  obtain ⟨t222, A150, H⟩ := H
  replace H : (some t222) = some true := H
  have A15 := Aside0.mk A150
  clear A150
  have Ht_ := Option.some.inj H
  clear H
  subst Ht_
  have H : (some true : Option Bool) = some true := rfl
  clear H
  go_enter Try.func9, Try.ntmps9
  try go_wp2_with (first | ((with_reducible refine gate_callee (f := 34) rfl ?_); refine goesL_ (some 11) rfl rfl Try.func34 (by kernel_rfl) rfl #[] rfl (by (try simp only [List.map_toArray, List.map_cons, List.map_nil]); first | done | rfl | (simp only [List.length_drop, List.length_take]; rfl)) ?_; (with_reducible refine (L05_after.calls k  t183 t184 t185 true _ A1.out).mono ?_); rintro e w16 ⟨v186, rfl, ho0, hb⟩; refine ⟨_, rfl, ?_⟩; have n0_ := Aside0.mk (Kd.R_lower ho0 (below_size (by repeat (first | (with_reducible first | exact HB.out | apply below_alloc | apply pw_below_drewN | apply below_drew1) | exact HB.out)))); have n1_ := Aside0.mk (below_step (by repeat (first | (with_reducible first | exact HB.out | apply below_alloc | apply pw_below_drewN | apply below_drew1) | exact HB.out)) hb); clear HB; have HO187 := n0_; have HB := n1_; clear n0_ n1_; (try clear hb); (try clear hb2); (try clear hk); (try clear hi); (try clear ho0)) | ((with_reducible refine gate_dst (N := 1) rfl ?_); (try (refine gate_guard (by rfl) ?_; dsimp only)); refine box_event ?hg (N := 1) ?hd (cs := #[.int .i64 0, .int .u64 0, .slice none 0 0]) (t := 25) ?hr ?_; (case hd => rfl); (case hg => rfl); (case hr => first | (go_simp; done) | (go_simp; rfl)); intro gb189 hg w17 hbox hb; have n0_ := Aside0.mk (Kd.R_below (by (with_reducible repeat (first | apply Kd.R_alloc | apply Kd.R_drewN | apply Kd.R_drew)); exact HO187.out) hb); have n1_ := Aside0.mk (below_step (by repeat (first | (with_reducible first | exact HB.out | apply below_alloc | apply pw_below_drewN | apply below_drew1) | exact HB.out)) hb); have n2_ := Aside0.mk (hbox); have n3_ := Aside0.mk ((by rw [hg]; exact (below_size (by repeat (first | (with_reducible first | exact HB.out | apply below_alloc | apply pw_below_drewN | apply below_drew1) | exact HB.out))) : w.heap.size ≤ gb189)); have n4_ := Aside0.mk ((by rw [hg]; exact (below_size (by repeat (first | (with_reducible first | exact HB.out | apply below_alloc | apply pw_below_drewN | apply below_drew1) | exact HB.out))) : w.heap.size ≤ gb189)); clear HO187; clear HB; have HO187 := n0_; have HB := n1_; have BK189 := n2_; have GW189 := n3_; have GE189 := n4_; clear n0_ n1_ n2_ n3_ n4_; clear hb hbox hg; have hcz18_0 : w17.cell? ⟨gb189, 0, none⟩ = some (.int .i64 0) := (blk_cell BK189.out 0).trans rfl; have hcz18_1 : w17.cell? ⟨gb189, 1, none⟩ = some (.int .u64 0) := (blk_cell BK189.out 1).trans rfl; have hcz18_2 : w17.cell? ⟨gb189, 2, none⟩ = some (.slice none 0 0) := (blk_cell BK189.out 2).trans rfl; have hfz18_0 := blk_frozen BK189.out 0; have hfz18_1 := blk_frozen BK189.out 1; have hfz18_2 := blk_frozen BK189.out 2; obtain ⟨Ao19, co19, eo19⟩ := Kd.R_slice HO187.out; subst eo19) | ((with_reducible refine gate_callee (f := 25) rfl ?_); refine goesL_ (some 16) rfl rfl Try.func25 (by kernel_rfl) rfl #[.agg #[.int .i64 t183, .int .u64 t184, .slice Ao19 t185.length co19], .int .i64 7] rfl (by (try simp only [List.map_toArray, List.map_cons, List.map_nil]); first | done | rfl | (simp only [List.length_drop, List.length_take]; rfl)) ?_; (with_reducible refine (ring_First.calls t183 t184 _ _ t185 7 t190 t191 t192 _ ?side1 ?side2 A2.out).mono ?_); (case side1 => refine (Kd.R_reads' (e := 35) (base := w.heap.size) (ok := fun k_ => True) (n := t185.length) (c := co19) ?_).2.2; exact (by (with_reducible repeat (first | apply Kd.R_alloc | apply Kd.R_drewN | apply Kd.R_drew)); exact (Kd.R_mono (Kd.R_far (p := ⟨gb189, 2, none⟩) (Kd.R_far (p := ⟨gb189, 1, none⟩) (Kd.R_far (p := ⟨gb189, 0, none⟩) (Kd.R_types HO187.out BK189.out (by decide)) (fun _ hk => hk.2) (.int .i64 t183)) (fun _ hk => hk.2) (.int .u64 t184)) (fun _ hk => hk.2) (.slice Ao19 t185.length co19)) (fun _ h_ => h_.1)))); (case side2 => exact (Kd.R_reads' HO187.out).2.1); rintro e w20 ⟨rfl, hb⟩; refine ⟨_, rfl, ?_⟩; have n0_ := Aside0.mk (Kd.R_below (by (with_reducible repeat (first | apply Kd.R_alloc | apply Kd.R_drewN | apply Kd.R_drew)); exact (Kd.R_mono (Kd.R_far (p := ⟨gb189, 2, none⟩) (Kd.R_far (p := ⟨gb189, 1, none⟩) (Kd.R_far (p := ⟨gb189, 0, none⟩) (Kd.R_types HO187.out BK189.out (by decide)) (fun _ hk => hk.2) (.int .i64 t183)) (fun _ hk => hk.2) (.int .u64 t184)) (fun _ hk => hk.2) (.slice Ao19 t185.length co19)) (fun _ h_ => h_.1))) hb); have n1_ := Aside0.mk (blk_below (g := gb189) (o := .cells #[.int .i64 t183, .int .u64 t184, .slice Ao19 t185.length co19] 25 (0, 0)) (by (with_reducible repeat (first | refine blk_drewN ?_ _ | refine blk_drew ?_ | refine blk_alloc ?_ _)); refine blk_put (cs := #[.int .i64 t183, .int .u64 t184, .slice none 0 0]) ?_ 2 _ rfl; (with_reducible repeat (first | refine blk_drewN ?_ _ | refine blk_drew ?_ | refine blk_alloc ?_ _)); refine blk_put (cs := #[.int .i64 t183, .int .u64 0, .slice none 0 0]) ?_ 1 _ rfl; (with_reducible repeat (first | refine blk_drewN ?_ _ | refine blk_drew ?_ | refine blk_alloc ?_ _)); refine blk_put (cs := #[.int .i64 0, .int .u64 0, .slice none 0 0]) ?_ 0 _ rfl; (with_reducible repeat (first | refine blk_drewN ?_ _ | refine blk_drew ?_ | refine blk_alloc ?_ _)); exact BK189.out) hb); have n2_ := Aside0.mk (below_step (by repeat (first | (with_reducible first | exact HB.out | apply below_alloc | apply pw_below_drewN | apply below_drew1 | refine below_set ?_ GE189.out) | exact HB.out)) hb); clear HO187; clear BK189; clear HB; have HO187 := n0_; have BK189 := n1_; have HB := n2_; clear n0_ n1_ n2_; (try clear hb); (try clear hb2); (try clear hk); (try clear hi)) | ((with_reducible refine gate_dst (N := 3) rfl ?_); (try (refine gate_guard (by rfl) ?_; dsimp only)); refine box_event ?hg (N := 3) ?hd (cs := #[.int .u64 0, .int .i64 0]) (t := 35) ?hr ?_; (case hd => rfl); (case hg => rfl); (case hr => first | (go_simp; done) | (go_simp; rfl)); intro gb193 hg w21 hbox hb; have n0_ := Aside0.mk (Kd.R_below (Kd.R_elderB (by (with_reducible repeat (first | apply Kd.R_alloc | apply Kd.R_drewN | apply Kd.R_drew)); exact HO187.out) gb193 (Nat.le_of_eq hg.symm)) hb); have n1_ := Aside0.mk (blk_below (g := gb189) (o := .cells #[.int .i64 t183, .int .u64 t184, .slice Ao19 t185.length co19] 25 (0, 0)) (by (with_reducible repeat (first | refine blk_drewN ?_ _ | refine blk_drew ?_ | refine blk_alloc ?_ _)); exact BK189.out) hb); have n2_ := Aside0.mk (below_step (by repeat (first | (with_reducible first | exact HB.out | apply below_alloc | apply pw_below_drewN | apply below_drew1 | refine below_set ?_ GE189.out) | exact HB.out)) hb); have n3_ := Aside0.mk (hbox); have n4_ := Aside0.mk ((by rw [hg]; exact (below_size (by repeat (first | (with_reducible first | exact HB.out | apply below_alloc | apply pw_below_drewN | apply below_drew1 | refine below_set ?_ GE189.out) | exact HB.out))) : w.heap.size ≤ gb193)); have n5_ := Aside0.mk ((by rw [hg]; exact (below_size (by repeat (first | (with_reducible first | exact HB.out | apply below_alloc | apply pw_below_drewN | apply below_drew1 | refine below_set ?_ GE189.out) | exact HB.out))) : w.heap.size ≤ gb193)); have n6_ := Aside0.mk ((by rw [hg]; exact Nat.ne_of_lt (blk_lt (g := gb189) (o := .cells #[.int .i64 t183, .int .u64 t184, .slice Ao19 t185.length co19] 25 (0, 0)) (by (with_reducible repeat (first | refine blk_drewN ?_ _ | refine blk_drew ?_ | refine blk_alloc ?_ _)); exact BK189.out)) : gb189 ≠ gb193)); have n7_ := Aside0.mk ((by rw [hg]; exact Nat.ne_of_gt (blk_lt (g := gb189) (o := .cells #[.int .i64 t183, .int .u64 t184, .slice Ao19 t185.length co19] 25 (0, 0)) (by (with_reducible repeat (first | refine blk_drewN ?_ _ | refine blk_drew ?_ | refine blk_alloc ?_ _)); exact BK189.out)) : gb193 ≠ gb189)); clear HO187; clear BK189; clear HB; have HO187 := n0_; have BK189 := n1_; have HB := n2_; have BK193 := n3_; have GW193 := n4_; have GE193 := n5_; have NB189_193 := n6_; have NB193_189 := n7_; clear n0_ n1_ n2_ n3_ n4_ n5_ n6_ n7_; clear hb hbox hg; have hnb22 := NB193_189.out; have hnc22 := NB189_193.out; have hcz23_0 : w21.cell? ⟨gb193, 0, none⟩ = some (.int .u64 0) := (blk_cell BK193.out 0).trans rfl; have hcz23_1 : w21.cell? ⟨gb193, 1, none⟩ = some (.int .i64 0) := (blk_cell BK193.out 1).trans rfl; have hfz23_0 := blk_frozen BK193.out 0; have hfz23_1 := blk_frozen BK193.out 1; have hcz24_0 : w21.cell? ⟨gb189, 0, none⟩ = some (.int .i64 t183) := (blk_cell BK189.out 0).trans rfl; have hcz24_1 : w21.cell? ⟨gb189, 1, none⟩ = some (.int .u64 t184) := (blk_cell BK189.out 1).trans rfl; have hcz24_2 : w21.cell? ⟨gb189, 2, none⟩ = some (.slice Ao19 t185.length co19) := (blk_cell BK189.out 2).trans rfl; have hfz24_0 := blk_frozen BK189.out 0; have hfz24_1 := blk_frozen BK189.out 1; have hfz24_2 := blk_frozen BK189.out 2) | ((with_reducible refine gate_callee (f := 27) rfl ?_); refine goesL_ (some 21) rfl rfl Try.func27 (by kernel_rfl) rfl #[.agg #[.int .i64 t183, .int .u64 t184, .slice Ao19 t185.length co19], .int .u64 4] rfl (by (try simp only [List.map_toArray, List.map_cons, List.map_nil]); first | done | rfl | (simp only [List.length_drop, List.length_take]; rfl)) ?_; (with_reducible refine (ring_Find.calls t183 t184 _ _ t185 4 t194 t195 _ ?side1 ?side2 A3.out).mono ?_); (case side1 => refine (Kd.R_reads' (e := 35) (base := w.heap.size) (ok := fun k_ => (True ∧ k_ ≠ gb193)) (n := t185.length) (c := co19) ?_).2.2; exact (by (with_reducible repeat (first | apply Kd.R_alloc | apply Kd.R_drewN | apply Kd.R_drew)); exact (Kd.R_mono (Kd.R_far (p := ⟨gb193, 1, none⟩) (Kd.R_far (p := ⟨gb193, 0, none⟩) (Kd.R_mono HO187.out (fun k_ hk => (⟨hk, hk.2⟩ : _ ∧ k_ ≠ gb193))) (fun _ hk => hk.2) (.int .u64 t190)) (fun _ hk => hk.2) (.int .i64 t191)) (fun _ h_ => h_.1)))); (case side2 => exact (Kd.R_reads' HO187.out).2.1); rintro e w25 ⟨rfl, hb⟩; refine ⟨_, rfl, ?_⟩; have n0_ := Aside0.mk (Kd.R_below (by (with_reducible repeat (first | apply Kd.R_alloc | apply Kd.R_drewN | apply Kd.R_drew)); exact (Kd.R_mono (Kd.R_far (p := ⟨gb193, 1, none⟩) (Kd.R_far (p := ⟨gb193, 0, none⟩) (Kd.R_mono HO187.out (fun k_ hk => (⟨hk, hk.2⟩ : _ ∧ k_ ≠ gb193))) (fun _ hk => hk.2) (.int .u64 t190)) (fun _ hk => hk.2) (.int .i64 t191)) (fun _ h_ => h_.1))) hb); have n1_ := Aside0.mk (blk_below (g := gb189) (o := .cells #[.int .i64 t183, .int .u64 t184, .slice Ao19 t185.length co19] 25 (0, 0)) (by (with_reducible repeat (first | refine blk_drewN ?_ _ | refine blk_drew ?_ | refine blk_alloc ?_ _)); refine blk_far ?_ NB189_193.out _; (with_reducible repeat (first | refine blk_drewN ?_ _ | refine blk_drew ?_ | refine blk_alloc ?_ _)); refine blk_far ?_ NB189_193.out _; (with_reducible repeat (first | refine blk_drewN ?_ _ | refine blk_drew ?_ | refine blk_alloc ?_ _)); exact BK189.out) hb); have n2_ := Aside0.mk (blk_below (g := gb193) (o := .cells #[.int .u64 t190, .int .i64 t191] 35 (0, 0)) (by (with_reducible repeat (first | refine blk_drewN ?_ _ | refine blk_drew ?_ | refine blk_alloc ?_ _)); refine blk_put (cs := #[.int .u64 t190, .int .i64 0]) ?_ 1 _ rfl; (with_reducible repeat (first | refine blk_drewN ?_ _ | refine blk_drew ?_ | refine blk_alloc ?_ _)); refine blk_put (cs := #[.int .u64 0, .int .i64 0]) ?_ 0 _ rfl; (with_reducible repeat (first | refine blk_drewN ?_ _ | refine blk_drew ?_ | refine blk_alloc ?_ _)); exact BK193.out) hb); have n3_ := Aside0.mk (below_step (by repeat (first | (with_reducible first | exact HB.out | apply below_alloc | apply pw_below_drewN | apply below_drew1 | refine below_set ?_ GE189.out | refine below_set ?_ GE193.out) | exact HB.out)) hb); clear HO187; clear BK189; clear BK193; clear HB; have HO187 := n0_; have BK189 := n1_; have BK193 := n2_; have HB := n3_; clear n0_ n1_ n2_ n3_; (try clear hb); (try clear hb2); (try clear hk); (try clear hi); have hcz26_0 : w25.cell? ⟨gb189, 0, none⟩ = some (.int .i64 t183) := (blk_cell BK189.out 0).trans rfl; have hcz26_1 : w25.cell? ⟨gb189, 1, none⟩ = some (.int .u64 t184) := (blk_cell BK189.out 1).trans rfl; have hcz26_2 : w25.cell? ⟨gb189, 2, none⟩ = some (.slice Ao19 t185.length co19) := (blk_cell BK189.out 2).trans rfl; have hfz26_0 := blk_frozen BK189.out 0; have hfz26_1 := blk_frozen BK189.out 1; have hfz26_2 := blk_frozen BK189.out 2) | ((with_reducible refine gate_dst (N := 26) rfl ?_); (try (refine gate_guard (by rfl) ?_; dsimp only)); refine Kd.R_lit (Kd.int .i64) _ 3 ?hg (N := 26) ?hd (xs := ([7, 5] : List Int)) (inner := [.int .i64 7, .int .i64 5]) (ok := fun _ => True) (okp := fun _ => True) ?hr ?hp (fun _ hk => hk) trivial (Below.refl _ _) (Nat.le_refl _) (by simp) ?_; (case hd => rfl); (case hg => rfl); (case hr => first | (go_simp; done) | (go_simp; rfl)); (case hp => exact (Reps.one (show Kd.M (Kd.int .i64) _ _ _ 7 [.int .i64 7] from rfl) (Reps.one (show Kd.M (Kd.int .i64) _ _ _ 5 [.int .i64 5] from rfl) (Reps.none _ _)))); intro v197 w27 ho28 hb hg_ hnew_; clear hg_ hnew_; (first | rw [← Ny196.out] at ho28 | (simp only [Int.reduceToNat] at ho28; rw [← Ny196.out] at ho28)); have n0_ := Aside0.mk (Kd.R_below (by (with_reducible repeat (first | apply Kd.R_alloc | apply Kd.R_drewN | apply Kd.R_drew)); exact HO187.out) hb); have n1_ := Aside0.mk (Kd.R_lower ho28 (below_size (by repeat (first | (with_reducible first | exact HB.out | apply below_alloc | apply pw_below_drewN | apply below_drew1 | refine below_set ?_ GE189.out | refine below_set ?_ GE193.out) | exact HB.out)))); have n2_ := Aside0.mk (blk_below (g := gb189) (o := .cells #[.int .i64 t183, .int .u64 t184, .slice Ao19 t185.length co19] 25 (0, 0)) (by (with_reducible repeat (first | refine blk_drewN ?_ _ | refine blk_drew ?_ | refine blk_alloc ?_ _)); exact BK189.out) hb); have n3_ := Aside0.mk (blk_below (g := gb193) (o := .cells #[.int .u64 t190, .int .i64 t191] 35 (0, 0)) (by (with_reducible repeat (first | refine blk_drewN ?_ _ | refine blk_drew ?_ | refine blk_alloc ?_ _)); exact BK193.out) hb); have n4_ := Aside0.mk (below_step (by repeat (first | (with_reducible first | exact HB.out | apply below_alloc | apply pw_below_drewN | apply below_drew1 | refine below_set ?_ GE189.out | refine below_set ?_ GE193.out) | exact HB.out)) hb); clear HO187; clear BK189; clear BK193; clear HB; have HO187 := n0_; have HO198 := n1_; have BK189 := n2_; have BK193 := n3_; have HB := n4_; clear n0_ n1_ n2_ n3_ n4_; clear hb ho28; obtain ⟨Ao29, co29, eo29⟩ := Kd.R_slice HO198.out; subst eo29) | ((with_reducible refine gate_callee (f := 17) rfl ?_); refine goesL_ (some 27) rfl rfl Try.func17 (by kernel_rfl) rfl #[.agg #[.int .i64 t183, .int .u64 t184, .slice Ao19 t185.length co19], .slice Ao29 y196.length co29] rfl (by (try simp only [List.map_toArray, List.map_cons, List.map_nil]); first | done | rfl | (simp only [List.length_drop, List.length_take]; rfl)) ?_; (with_reducible refine (ring_Wipe.calls t183 t184 _ _ t185 _ _ y196 t199 t200 t201 t204 t207 _ ?side1 ?side2 ?side3 ?side4 A4.out).mono ?_); (case side1 => repeat (first | exact (Kd.R_reads' HO187.out).2.2 | (with_reducible refine Kd.C_alloc ?_ _) | (with_reducible refine Kd.C_drewN ?_ _) | (with_reducible refine Kd.C_drew ?_))); (case side2 => exact (Kd.R_reads' HO187.out).2.1); (case side3 => repeat (first | exact (Kd.R_reads' HO198.out).2.2 | (with_reducible refine Kd.C_alloc ?_ _) | (with_reducible refine Kd.C_drewN ?_ _) | (with_reducible refine Kd.C_drew ?_))); (case side4 => exact (Kd.R_reads' HO198.out).2.1); rintro e w30 ⟨v202, v205, rfl, ho0, ho1, hb⟩; refine ⟨_, rfl, ?_⟩; have n0_ := Aside0.mk (Kd.R_mono (Kd.R_told (Kd.R_told (Kd.R_old (by (with_reducible repeat (first | apply Kd.R_alloc | apply Kd.R_drewN | apply Kd.R_drew)); exact HO187.out) hb) (Kd.R_base ho0)) (Kd.R_base ho1)) (fun _ h_ => h_.1)); have n1_ := Aside0.mk (Kd.R_below (by (with_reducible repeat (first | apply Kd.R_alloc | apply Kd.R_drewN | apply Kd.R_drew)); exact HO198.out) hb); have n2_ := Aside0.mk (Kd.R_lower (Kd.R_newB (Kd.R_new' ho0 (Kd.R_lt (by (with_reducible repeat (first | apply Kd.R_alloc | apply Kd.R_drewN | apply Kd.R_drew)); exact HO187.out))) (g := gb193) (o := .cells #[.int .u64 t190, .int .i64 t191] 35 (0, 0)) (by (with_reducible repeat (first | refine blk_drewN ?_ _ | refine blk_drew ?_ | refine blk_alloc ?_ _)); exact BK193.out)) (below_size (by repeat (first | (with_reducible first | exact HB.out | apply below_alloc | apply pw_below_drewN | apply below_drew1 | refine below_set ?_ GE189.out | refine below_set ?_ GE193.out) | exact HB.out)))); have n3_ := Aside0.mk (Kd.R_lower (Kd.R_newB (Kd.R_new' ho1 (Kd.R_lt (by (with_reducible repeat (first | apply Kd.R_alloc | apply Kd.R_drewN | apply Kd.R_drew)); exact HO187.out))) (g := gb193) (o := .cells #[.int .u64 t190, .int .i64 t191] 35 (0, 0)) (by (with_reducible repeat (first | refine blk_drewN ?_ _ | refine blk_drew ?_ | refine blk_alloc ?_ _)); exact BK193.out)) (below_size (by repeat (first | (with_reducible first | exact HB.out | apply below_alloc | apply pw_below_drewN | apply below_drew1 | refine below_set ?_ GE189.out | refine below_set ?_ GE193.out) | exact HB.out)))); have n4_ := Aside0.mk (blk_below (g := gb189) (o := .cells #[.int .i64 t183, .int .u64 t184, .slice Ao19 t185.length co19] 25 (0, 0)) (by (with_reducible repeat (first | refine blk_drewN ?_ _ | refine blk_drew ?_ | refine blk_alloc ?_ _)); exact BK189.out) hb); have n5_ := Aside0.mk (blk_below (g := gb193) (o := .cells #[.int .u64 t190, .int .i64 t191] 35 (0, 0)) (by (with_reducible repeat (first | refine blk_drewN ?_ _ | refine blk_drew ?_ | refine blk_alloc ?_ _)); exact BK193.out) hb); have n6_ := Aside0.mk (below_step (by repeat (first | (with_reducible first | exact HB.out | apply below_alloc | apply pw_below_drewN | apply below_drew1 | refine below_set ?_ GE189.out | refine below_set ?_ GE193.out) | exact HB.out)) hb); clear HO187; clear HO198; clear BK189; clear BK193; clear HB; have HO187 := n0_; have HO198 := n1_; have HO203 := n2_; have HO206 := n3_; have BK189 := n4_; have BK193 := n5_; have HB := n6_; clear n0_ n1_ n2_ n3_ n4_ n5_ n6_; (try clear hb); (try clear hb2); (try clear hk); (try clear hi); (try clear ho0); (try clear ho1)) | ((with_reducible refine gate_dst (N := 7) rfl ?_); (try (refine gate_guard (by rfl) ?_; dsimp only)); refine box_event ?hg (N := 7) ?hd (cs := #[.int .i64 0, .int .u64 0, .slice none 0 0]) (t := 25) ?hr ?_; (case hd => rfl); (case hg => rfl); (case hr => first | (go_simp; done) | (go_simp; rfl)); intro gb208 hg w31 hbox hb; have n0_ := Aside0.mk (Kd.R_below (by (with_reducible repeat (first | apply Kd.R_alloc | apply Kd.R_drewN | apply Kd.R_drew)); exact HO187.out) hb); have n1_ := Aside0.mk (Kd.R_below (by (with_reducible repeat (first | apply Kd.R_alloc | apply Kd.R_drewN | apply Kd.R_drew)); exact HO198.out) hb); have n2_ := Aside0.mk (Kd.R_below (by (with_reducible repeat (first | apply Kd.R_alloc | apply Kd.R_drewN | apply Kd.R_drew)); exact HO203.out) hb); have n3_ := Aside0.mk (Kd.R_below (by (with_reducible repeat (first | apply Kd.R_alloc | apply Kd.R_drewN | apply Kd.R_drew)); exact HO206.out) hb); have n4_ := Aside0.mk (blk_below (g := gb189) (o := .cells #[.int .i64 t183, .int .u64 t184, .slice Ao19 t185.length co19] 25 (0, 0)) (by (with_reducible repeat (first | refine blk_drewN ?_ _ | refine blk_drew ?_ | refine blk_alloc ?_ _)); exact BK189.out) hb); have n5_ := Aside0.mk (blk_below (g := gb193) (o := .cells #[.int .u64 t190, .int .i64 t191] 35 (0, 0)) (by (with_reducible repeat (first | refine blk_drewN ?_ _ | refine blk_drew ?_ | refine blk_alloc ?_ _)); exact BK193.out) hb); have n6_ := Aside0.mk (below_step (by repeat (first | (with_reducible first | exact HB.out | apply below_alloc | apply pw_below_drewN | apply below_drew1 | refine below_set ?_ GE189.out | refine below_set ?_ GE193.out) | exact HB.out)) hb); have n7_ := Aside0.mk (hbox); have n8_ := Aside0.mk ((by rw [hg]; exact (below_size (by repeat (first | (with_reducible first | exact HB.out | apply below_alloc | apply pw_below_drewN | apply below_drew1 | refine below_set ?_ GE189.out | refine below_set ?_ GE193.out) | exact HB.out))) : w.heap.size ≤ gb208)); have n9_ := Aside0.mk ((by rw [hg]; exact (below_size (by repeat (first | (with_reducible first | exact HB.out | apply below_alloc | apply pw_below_drewN | apply below_drew1 | refine below_set ?_ GE189.out | refine below_set ?_ GE193.out) | exact HB.out))) : w.heap.size ≤ gb208)); have n10_ := Aside0.mk ((by rw [hg]; exact Nat.ne_of_lt (blk_lt (g := gb189) (o := .cells #[.int .i64 t183, .int .u64 t184, .slice Ao19 t185.length co19] 25 (0, 0)) (by (with_reducible repeat (first | refine blk_drewN ?_ _ | refine blk_drew ?_ | refine blk_alloc ?_ _)); exact BK189.out)) : gb189 ≠ gb208)); have n11_ := Aside0.mk ((by rw [hg]; exact Nat.ne_of_gt (blk_lt (g := gb189) (o := .cells #[.int .i64 t183, .int .u64 t184, .slice Ao19 t185.length co19] 25 (0, 0)) (by (with_reducible repeat (first | refine blk_drewN ?_ _ | refine blk_drew ?_ | refine blk_alloc ?_ _)); exact BK189.out)) : gb208 ≠ gb189)); have n12_ := Aside0.mk ((by rw [hg]; exact Nat.ne_of_lt (blk_lt (g := gb193) (o := .cells #[.int .u64 t190, .int .i64 t191] 35 (0, 0)) (by (with_reducible repeat (first | refine blk_drewN ?_ _ | refine blk_drew ?_ | refine blk_alloc ?_ _)); exact BK193.out)) : gb193 ≠ gb208)); have n13_ := Aside0.mk ((by rw [hg]; exact Nat.ne_of_gt (blk_lt (g := gb193) (o := .cells #[.int .u64 t190, .int .i64 t191] 35 (0, 0)) (by (with_reducible repeat (first | refine blk_drewN ?_ _ | refine blk_drew ?_ | refine blk_alloc ?_ _)); exact BK193.out)) : gb208 ≠ gb193)); clear HO187; clear HO198; clear HO203; clear HO206; clear BK189; clear BK193; clear HB; have HO187 := n0_; have HO198 := n1_; have HO203 := n2_; have HO206 := n3_; have BK189 := n4_; have BK193 := n5_; have HB := n6_; have BK208 := n7_; have GW208 := n8_; have GE208 := n9_; have NB189_208 := n10_; have NB208_189 := n11_; have NB193_208 := n12_; have NB208_193 := n13_; clear n0_ n1_ n2_ n3_ n4_ n5_ n6_ n7_ n8_ n9_ n10_ n11_ n12_ n13_; clear hb hbox hg; have hnb32 := NB208_189.out; have hnc32 := NB189_208.out; have hnb33 := NB208_193.out; have hnc33 := NB193_208.out; have hcz34_0 : w31.cell? ⟨gb208, 0, none⟩ = some (.int .i64 0) := (blk_cell BK208.out 0).trans rfl; have hcz34_1 : w31.cell? ⟨gb208, 1, none⟩ = some (.int .u64 0) := (blk_cell BK208.out 1).trans rfl; have hcz34_2 : w31.cell? ⟨gb208, 2, none⟩ = some (.slice none 0 0) := (blk_cell BK208.out 2).trans rfl; have hfz34_0 := blk_frozen BK208.out 0; have hfz34_1 := blk_frozen BK208.out 1; have hfz34_2 := blk_frozen BK208.out 2; obtain ⟨Ao35, co35, eo35⟩ := Kd.R_slice HO203.out; subst eo35))
  have n0_ : Aside0 (Kd.R k35 35 (((w31.setCell ⟨gb208, 0, none⟩ (.int .i64 t199)).setCell ⟨gb208, 1, none⟩ (.int .u64 t200)).setCell ⟨gb208, 2, none⟩ (.slice Ao35 t201.length co35)) w.heap.size (fun k_ => some k_ ≠ (.slice Ao35 t201.length co35 : Value).ownBlock ∧ some k_ ≠ (v205 : Value).ownBlock ∧ k_ ≠ gb193) (.slice Ao19 t185.length co19) t185) := ⟨by (with_reducible repeat (first | apply Kd.R_alloc | apply Kd.R_drewN | apply Kd.R_drew)); exact Kd.R_mono (Kd.R_far (p := ⟨gb208, 2, none⟩) (Kd.R_far (p := ⟨gb208, 1, none⟩) (Kd.R_far (p := ⟨gb208, 0, none⟩) (Kd.R_types HO187.out BK208.out (by decide)) (fun _ hk => hk.2) (.int .i64 t199)) (fun _ hk => hk.2) (.int .u64 t200)) (fun _ hk => hk.2) (.slice Ao35 t201.length co35)) (fun _ hk => ⟨hk.1.1.2, ⟨hk.1.2, hk.1.1.1.2⟩⟩)⟩
  have n1_ : Aside0 (Kd.R (Kd.int .i64) 3 (((w31.setCell ⟨gb208, 0, none⟩ (.int .i64 t199)).setCell ⟨gb208, 1, none⟩ (.int .u64 t200)).setCell ⟨gb208, 2, none⟩ (.slice Ao35 t201.length co35)) w.heap.size (fun _ => True) (.slice Ao29 y196.length co29) y196) := ⟨by (with_reducible repeat (first | apply Kd.R_alloc | apply Kd.R_drewN | apply Kd.R_drew)); exact Kd.R_mono (Kd.R_far (p := ⟨gb208, 2, none⟩) (Kd.R_far (p := ⟨gb208, 1, none⟩) (Kd.R_far (p := ⟨gb208, 0, none⟩) (Kd.R_types HO198.out BK208.out (by decide)) (fun _ hk => hk.2) (.int .i64 t199)) (fun _ hk => hk.2) (.int .u64 t200)) (fun _ hk => hk.2) (.slice Ao35 t201.length co35)) (fun _ hk => trivial)⟩
  have n2_ : Aside0 (Kd.R k35 35 (((w31.setCell ⟨gb208, 0, none⟩ (.int .i64 t199)).setCell ⟨gb208, 1, none⟩ (.int .u64 t200)).setCell ⟨gb208, 2, none⟩ (.slice Ao35 t201.length co35)) w.heap.size (fun k_ => some k_ ≠ (.slice Ao19 t185.length co19 : Value).ownBlock ∧ some k_ ≠ (v205 : Value).ownBlock ∧ k_ ≠ gb193) (.slice Ao35 t201.length co35) t201) := ⟨by (with_reducible repeat (first | apply Kd.R_alloc | apply Kd.R_drewN | apply Kd.R_drew)); exact Kd.R_mono (Kd.R_far (p := ⟨gb208, 2, none⟩) (Kd.R_far (p := ⟨gb208, 1, none⟩) (Kd.R_far (p := ⟨gb208, 0, none⟩) (Kd.R_types HO203.out BK208.out (by decide)) (fun _ hk => hk.2) (.int .i64 t199)) (fun _ hk => hk.2) (.int .u64 t200)) (fun _ hk => hk.2) (.slice Ao35 t201.length co35)) (fun _ hk => ⟨hk.1.1.2, ⟨hk.1.1.1, hk.1.2⟩⟩)⟩
  have n3_ : Aside0 (Kd.R k35 35 (((w31.setCell ⟨gb208, 0, none⟩ (.int .i64 t199)).setCell ⟨gb208, 1, none⟩ (.int .u64 t200)).setCell ⟨gb208, 2, none⟩ (.slice Ao35 t201.length co35)) w.heap.size (fun k_ => some k_ ≠ (.slice Ao19 t185.length co19 : Value).ownBlock ∧ some k_ ≠ (.slice Ao35 t201.length co35 : Value).ownBlock ∧ k_ ≠ gb193) v205 t204) := ⟨by (with_reducible repeat (first | apply Kd.R_alloc | apply Kd.R_drewN | apply Kd.R_drew)); exact Kd.R_mono (Kd.R_far (p := ⟨gb208, 2, none⟩) (Kd.R_far (p := ⟨gb208, 1, none⟩) (Kd.R_far (p := ⟨gb208, 0, none⟩) (Kd.R_types HO206.out BK208.out (by decide)) (fun _ hk => hk.2) (.int .i64 t199)) (fun _ hk => hk.2) (.int .u64 t200)) (fun _ hk => hk.2) (.slice Ao35 t201.length co35)) (fun _ hk => ⟨hk.1.1.2, ⟨hk.1.1.1, hk.1.2⟩⟩)⟩
  have n4_ : Aside0 ((((w31.setCell ⟨gb208, 0, none⟩ (.int .i64 t199)).setCell ⟨gb208, 1, none⟩ (.int .u64 t200)).setCell ⟨gb208, 2, none⟩ (.slice Ao35 t201.length co35)).heap[gb189]? = some (.cells #[.int .i64 t183, .int .u64 t184, .slice Ao19 t185.length co19] 25 (0, 0))) := ⟨by (with_reducible repeat (first | refine blk_drewN ?_ _ | refine blk_drew ?_ | refine blk_alloc ?_ _)); refine blk_far ?_ NB189_208.out _; (with_reducible repeat (first | refine blk_drewN ?_ _ | refine blk_drew ?_ | refine blk_alloc ?_ _)); refine blk_far ?_ NB189_208.out _; (with_reducible repeat (first | refine blk_drewN ?_ _ | refine blk_drew ?_ | refine blk_alloc ?_ _)); refine blk_far ?_ NB189_208.out _; (with_reducible repeat (first | refine blk_drewN ?_ _ | refine blk_drew ?_ | refine blk_alloc ?_ _)); exact BK189.out⟩
  have n5_ : Aside0 ((((w31.setCell ⟨gb208, 0, none⟩ (.int .i64 t199)).setCell ⟨gb208, 1, none⟩ (.int .u64 t200)).setCell ⟨gb208, 2, none⟩ (.slice Ao35 t201.length co35)).heap[gb193]? = some (.cells #[.int .u64 t190, .int .i64 t191] 35 (0, 0))) := ⟨by (with_reducible repeat (first | refine blk_drewN ?_ _ | refine blk_drew ?_ | refine blk_alloc ?_ _)); refine blk_far ?_ NB193_208.out _; (with_reducible repeat (first | refine blk_drewN ?_ _ | refine blk_drew ?_ | refine blk_alloc ?_ _)); refine blk_far ?_ NB193_208.out _; (with_reducible repeat (first | refine blk_drewN ?_ _ | refine blk_drew ?_ | refine blk_alloc ?_ _)); refine blk_far ?_ NB193_208.out _; (with_reducible repeat (first | refine blk_drewN ?_ _ | refine blk_drew ?_ | refine blk_alloc ?_ _)); exact BK193.out⟩
  have n6_ : Aside0 ((((w31.setCell ⟨gb208, 0, none⟩ (.int .i64 t199)).setCell ⟨gb208, 1, none⟩ (.int .u64 t200)).setCell ⟨gb208, 2, none⟩ (.slice Ao35 t201.length co35)).heap[gb208]? = some (.cells #[.int .i64 t199, .int .u64 t200, .slice Ao35 t201.length co35] 25 (0, 0))) := ⟨by (with_reducible repeat (first | refine blk_drewN ?_ _ | refine blk_drew ?_ | refine blk_alloc ?_ _)); refine blk_put (cs := #[.int .i64 t199, .int .u64 t200, .slice none 0 0]) ?_ 2 _ rfl; (with_reducible repeat (first | refine blk_drewN ?_ _ | refine blk_drew ?_ | refine blk_alloc ?_ _)); refine blk_put (cs := #[.int .i64 t199, .int .u64 0, .slice none 0 0]) ?_ 1 _ rfl; (with_reducible repeat (first | refine blk_drewN ?_ _ | refine blk_drew ?_ | refine blk_alloc ?_ _)); refine blk_put (cs := #[.int .i64 0, .int .u64 0, .slice none 0 0]) ?_ 0 _ rfl; (with_reducible repeat (first | refine blk_drewN ?_ _ | refine blk_drew ?_ | refine blk_alloc ?_ _)); exact BK208.out⟩
  have n7_ : Aside0 (Below w.heap.size w (((w31.setCell ⟨gb208, 0, none⟩ (.int .i64 t199)).setCell ⟨gb208, 1, none⟩ (.int .u64 t200)).setCell ⟨gb208, 2, none⟩ (.slice Ao35 t201.length co35))) := ⟨by repeat (first | (with_reducible first | exact HB.out | apply below_alloc | apply pw_below_drewN | apply below_drew1 | refine below_set ?_ GE189.out | refine below_set ?_ GE193.out | refine below_set ?_ GE208.out) | exact HB.out)⟩
  (try clear HO187)
  (try clear HO198)
  (try clear HO203)
  (try clear HO206)
  (try clear BK189)
  (try clear BK193)
  (try clear BK208)
  (try clear HB)
  generalize (((w31.setCell ⟨gb208, 0, none⟩ (.int .i64 t199)).setCell ⟨gb208, 1, none⟩ (.int .u64 t200)).setCell ⟨gb208, 2, none⟩ (.slice Ao35 t201.length co35)) = w36 at n0_ n1_ n2_ n3_ n4_ n5_ n6_ n7_ ⊢
  have HO187 := n0_
  have HO198 := n1_
  have HO203 := n2_
  have HO206 := n3_
  have BK189 := n4_
  have BK193 := n5_
  have BK208 := n6_
  have HB := n7_
  clear n0_ n1_ n2_ n3_ n4_ n5_ n6_ n7_
  have n0_ := Aside0.mk (Kd.R_drew HO187.out)
  have n1_ := Aside0.mk (Kd.R_drew HO198.out)
  have n2_ := Aside0.mk (Kd.R_drew HO203.out)
  have n3_ := Aside0.mk (Kd.R_drew HO206.out)
  have n4_ := Aside0.mk (blk_drew BK189.out)
  have n5_ := Aside0.mk (blk_drew BK193.out)
  have n6_ := Aside0.mk (blk_drew BK208.out)
  have n7_ := Aside0.mk (below_drew1 HB.out)
  clear HO187
  clear HO198
  clear HO203
  clear HO206
  clear BK189
  clear BK193
  clear BK208
  clear HB
  have HO187 := n0_
  have HO198 := n1_
  have HO203 := n2_
  have HO206 := n3_
  have BK189 := n4_
  have BK193 := n5_
  have BK208 := n6_
  have HB := n7_
  clear n0_ n1_ n2_ n3_ n4_ n5_ n6_ n7_
  refine start_ (n := 36) (S := fun w' => w'.cell? ⟨gb193, 0, none⟩ = some (.int .u64 t190) ∧ w'.cell? ⟨gb193, 1, none⟩ = some (.int .i64 t191) ∧ w'.cell? ⟨gb208, 0, none⟩ = some (.int .i64 t199) ∧ w'.cell? ⟨gb208, 1, none⟩ = some (.int .u64 t200) ∧ w'.cell? ⟨gb208, 2, none⟩ = some (.slice Ao35 t201.length co35)) (ds := []) #[false, false, false, false, false, false, false, false, false, false, false, false, false, false, false, false, false, false, false, false, false, false, false, false, false, false, false, false, false, false, false, false, false, false, false, false] (by kernel_rfl) rfl rfl ⟨(blk_cell BK193.out 0).trans rfl, (blk_cell BK193.out 1).trans rfl, (blk_cell BK208.out 0).trans rfl, (blk_cell BK208.out 1).trans rfl, (blk_cell BK208.out 2).trans rfl⟩ (fun hHeld => ?_); refine with_tabW L05_awake.tab5 L05_awake.bits5 (fun HT_ HW_ => ?_)
  generalize w36.drew = w37 at HO187 HO198 HO203 HO206 BK189 BK193 BK208 HB hHeld ⊢
  refine pure_ (i := 0) (N := some 31) (v := ?_) (a' := ?_) #[true, false, false, false, false, false, false, false, false, false, false, false, false, false, false, false, false, false, false, false, false, false, false, false, false, false, false, false, false, false, false, false, false, false, false, false] rfl rfl (any_of HT_.out (by kernel_rfl)) (fun _ _ _ h => h) (Or.inl ⟨by rfl, ?_⟩) ?_ ?_
  rotate_left
  · intro w'
    go_simp
    with_reducible rfl
  rotate_left
  · simp only [Act.put, List.setIfInBounds_toArray, List.set_cons_zero, List.set_cons_succ, i64_w, i32_w]
    rfl
  refine pure_ (i := 1) (N := some 32) (v := ?_) (a' := ?_) #[true, true, false, false, false, false, false, false, false, false, false, false, false, false, false, false, false, false, false, false, false, false, false, false, false, false, false, false, false, false, false, false, false, false, false, false] rfl rfl (any_of HT_.out (by kernel_rfl)) (fun _ _ _ h => h) (Or.inl ⟨by rfl, ?_⟩) ?_ ?_
  rotate_left
  · intro w'
    go_simp
    with_reducible rfl
  rotate_left
  · simp only [Act.put, List.setIfInBounds_toArray, List.set_cons_zero, List.set_cons_succ, i64_w, i32_w]
    rfl
  refine pure_ (i := 2) (N := some 33) (v := ?_) (a' := ?_) #[true, true, true, false, false, false, false, false, false, false, false, false, false, false, false, false, false, false, false, false, false, false, false, false, false, false, false, false, false, false, false, false, false, false, false, false] rfl rfl (any_of HT_.out (by kernel_rfl)) (fun _ _ _ h => h) (Or.inl ⟨by rfl, ?_⟩) ?_ ?_
  rotate_left
  · intro w'
    go_simp
    with_reducible rfl
  rotate_left
  · simp only [Act.put, List.setIfInBounds_toArray, List.set_cons_zero, List.set_cons_succ, i64_w, i32_w]
    rfl
  refine pure_ (i := 3) (N := some 34) (v := ?_) (a' := ?_) #[true, true, true, true, false, false, false, false, false, false, false, false, false, false, false, false, false, false, false, false, false, false, false, false, false, false, false, false, false, false, false, false, false, false, false, false] rfl rfl (any_of HT_.out (by kernel_rfl)) (fun _ _ _ h => h) (Or.inl ⟨by rfl, ?_⟩) ?_ ?_
  rotate_left
  · intro w'
    go_simp
    with_reducible rfl
  rotate_left
  · simp only [Act.put, List.setIfInBounds_toArray, List.set_cons_zero, List.set_cons_succ, i64_w, i32_w]
    rfl
  refine pure_ (i := 4) (N := some 35) (v := ?_) (a' := ?_) #[true, true, true, true, true, false, false, false, false, false, false, false, false, false, false, false, false, false, false, false, false, false, false, false, false, false, false, false, false, false, false, false, false, false, false, false] rfl rfl (any_of HT_.out (by kernel_rfl)) (fun _ _ _ h => h) (Or.inl ⟨by rfl, ?_⟩) ?_ ?_
  rotate_left
  · intro w'
    go_simp
    with_reducible rfl
  rotate_left
  · simp only [Act.put, List.setIfInBounds_toArray, List.set_cons_zero, List.set_cons_succ, i64_w, i32_w]
    rfl
  refine pure_ (i := 5) (N := some 36) (v := ?_) (a' := ?_) #[true, true, true, true, true, true, false, false, false, false, false, false, false, false, false, false, false, false, false, false, false, false, false, false, false, false, false, false, false, false, false, false, false, false, false, false] rfl rfl (any_of HT_.out (by kernel_rfl)) (fun _ _ _ h => h) (Or.inl ⟨by rfl, ?_⟩) ?_ ?_
  rotate_left
  · intro w'
    go_simp
    with_reducible rfl
  rotate_left
  · simp only [Act.put, List.setIfInBounds_toArray, List.set_cons_zero, List.set_cons_succ, i64_w, i32_w]
    rfl
  refine pure_ (i := 7) (N := some 38) (v := ?_) (a' := ?_) #[true, true, true, true, true, true, false, true, false, false, false, false, false, false, false, false, false, false, false, false, false, false, false, false, false, false, false, false, false, false, false, false, false, false, false, false] rfl rfl (any_of HT_.out (by kernel_rfl)) (fun _ _ _ h => h) (Or.inl ⟨by rfl, ?_⟩) ?_ ?_
  rotate_left
  · intro w'
    go_simp
    with_reducible rfl
  rotate_left
  · simp only [Act.put, List.setIfInBounds_toArray, List.set_cons_zero, List.set_cons_succ, i64_w, i32_w]
    rfl
  refine take_ (i := 6) (N := some 37) (v := ?_) (a' := ?_) #[true, true, true, true, true, true, true, true, false, false, false, false, false, false, false, false, false, false, false, false, false, false, false, false, false, false, false, false, false, false, false, false, false, false, false, false] rfl rfl (take_ofW HT_.out HW_.out (by kernel_rfl)) (fun _ _ _ h => h) (Or.inl ⟨by rfl, ?_⟩) hHeld ?_ ?_
  rotate_left
  · rintro w' ⟨s0, s1, s2, s3, s4⟩
    go_simp
    with_reducible rfl
  rotate_left
  · simp only [Act.put, List.setIfInBounds_toArray, List.set_cons_zero, List.set_cons_succ, i64_w, i32_w]
    rfl
  refine pure_ (i := 8) (N := some 39) (v := ?_) (a' := ?_) #[true, true, true, true, true, true, true, true, true, false, false, false, false, false, false, false, false, false, false, false, false, false, false, false, false, false, false, false, false, false, false, false, false, false, false, false] rfl rfl (any_of HT_.out (by kernel_rfl)) (fun _ _ _ h => h) (Or.inl ⟨by rfl, ?_⟩) ?_ ?_
  rotate_left
  · intro w'
    go_simp
    with_reducible rfl
  rotate_left
  · simp only [Act.put, List.setIfInBounds_toArray, List.set_cons_zero, List.set_cons_succ, i64_w, i32_w]
    rfl
  refine pure_ (i := 9) (N := some 40) (v := ?_) (a' := ?_) #[true, true, true, true, true, true, true, true, true, true, false, false, false, false, false, false, false, false, false, false, false, false, false, false, false, false, false, false, false, false, false, false, false, false, false, false] rfl rfl (any_of HT_.out (by kernel_rfl)) (fun _ _ _ h => h) (Or.inl ⟨by rfl, ?_⟩) ?_ ?_
  rotate_left
  · intro w'
    go_simp
    with_reducible rfl
  rotate_left
  · simp only [Act.put, List.setIfInBounds_toArray, List.set_cons_zero, List.set_cons_succ, i64_w, i32_w]
    rfl
  refine pure_ (i := 10) (N := some 41) (v := ?_) (a' := ?_) #[true, true, true, true, true, true, true, true, true, true, true, false, false, false, false, false, false, false, false, false, false, false, false, false, false, false, false, false, false, false, false, false, false, false, false, false] rfl rfl (any_of HT_.out (by kernel_rfl)) (fun _ _ _ h => h) (Or.inl ⟨by rfl, ?_⟩) ?_ ?_
  rotate_left
  · intro w'
    go_simp
    with_reducible rfl
  rotate_left
  · simp only [Act.put, List.setIfInBounds_toArray, List.set_cons_zero, List.set_cons_succ, i64_w, i32_w]
    rfl
  refine pure_ (i := 11) (N := some 42) (v := ?_) (a' := ?_) #[true, true, true, true, true, true, true, true, true, true, true, true, false, false, false, false, false, false, false, false, false, false, false, false, false, false, false, false, false, false, false, false, false, false, false, false] rfl rfl (any_of HT_.out (by kernel_rfl)) (fun _ _ _ h => h) (Or.inl ⟨by rfl, ?_⟩) ?_ ?_
  rotate_left
  · intro w'
    go_simp
    with_reducible rfl
  rotate_left
  · simp only [Act.put, List.setIfInBounds_toArray, List.set_cons_zero, List.set_cons_succ, i64_w, i32_w]
    rfl
  refine pure_ (i := 12) (N := some 43) (v := ?_) (a' := ?_) #[true, true, true, true, true, true, true, true, true, true, true, true, true, false, false, false, false, false, false, false, false, false, false, false, false, false, false, false, false, false, false, false, false, false, false, false] rfl rfl (any_of HT_.out (by kernel_rfl)) (fun _ _ _ h => h) (Or.inl ⟨by rfl, ?_⟩) ?_ ?_
  rotate_left
  · intro w'
    go_simp
    with_reducible rfl
  rotate_left
  · simp only [Act.put, List.setIfInBounds_toArray, List.set_cons_zero, List.set_cons_succ, i64_w, i32_w]
    rfl
  refine pure_ (i := 13) (N := some 44) (v := ?_) (a' := ?_) #[true, true, true, true, true, true, true, true, true, true, true, true, true, true, false, false, false, false, false, false, false, false, false, false, false, false, false, false, false, false, false, false, false, false, false, false] rfl rfl (any_of HT_.out (by kernel_rfl)) (fun _ _ _ h => h) (Or.inl ⟨by rfl, ?_⟩) ?_ ?_
  rotate_left
  · intro w'
    go_simp
    with_reducible rfl
  rotate_left
  · simp only [Act.put, List.setIfInBounds_toArray, List.set_cons_zero, List.set_cons_succ, i64_w, i32_w]
    rfl
  refine pure_ (i := 14) (N := some 45) (v := ?_) (a' := ?_) #[true, true, true, true, true, true, true, true, true, true, true, true, true, true, true, false, false, false, false, false, false, false, false, false, false, false, false, false, false, false, false, false, false, false, false, false] rfl rfl (any_of HT_.out (by kernel_rfl)) (fun _ _ _ h => h) (Or.inl ⟨by rfl, ?_⟩) ?_ ?_
  rotate_left
  · intro w'
    go_simp
    with_reducible rfl
  rotate_left
  · simp only [Act.put, List.setIfInBounds_toArray, List.set_cons_zero, List.set_cons_succ, i64_w, i32_w]
    rfl
  refine pure_ (i := 15) (N := some 46) (v := ?_) (a' := ?_) #[true, true, true, true, true, true, true, true, true, true, true, true, true, true, true, true, false, false, false, false, false, false, false, false, false, false, false, false, false, false, false, false, false, false, false, false] rfl rfl (any_of HT_.out (by kernel_rfl)) (fun _ _ _ h => h) (Or.inl ⟨by rfl, ?_⟩) ?_ ?_
  rotate_left
  · intro w'
    go_simp
    with_reducible rfl
  rotate_left
  · simp only [Act.put, List.setIfInBounds_toArray, List.set_cons_zero, List.set_cons_succ, i64_w, i32_w]
    rfl
  refine pure_ (i := 16) (N := some 47) (v := ?_) (a' := ?_) #[true, true, true, true, true, true, true, true, true, true, true, true, true, true, true, true, true, false, false, false, false, false, false, false, false, false, false, false, false, false, false, false, false, false, false, false] rfl rfl (any_of HT_.out (by kernel_rfl)) (fun _ _ _ h => h) (Or.inl ⟨by rfl, ?_⟩) ?_ ?_
  rotate_left
  · intro w'
    go_simp
    with_reducible rfl
  rotate_left
  · simp only [Act.put, List.setIfInBounds_toArray, List.set_cons_zero, List.set_cons_succ, i64_w, i32_w]
    rfl
  refine pure_ (i := 17) (N := some 48) (v := ?_) (a' := ?_) #[true, true, true, true, true, true, true, true, true, true, true, true, true, true, true, true, true, true, false, false, false, false, false, false, false, false, false, false, false, false, false, false, false, false, false, false] rfl rfl (any_of HT_.out (by kernel_rfl)) (fun _ _ _ h => h) (Or.inl ⟨by rfl, ?_⟩) ?_ ?_
  rotate_left
  · intro w'
    go_simp
    with_reducible rfl
  rotate_left
  · simp only [Act.put, List.setIfInBounds_toArray, List.set_cons_zero, List.set_cons_succ, i64_w, i32_w]
    rfl
  refine pure_ (i := 18) (N := some 49) (v := ?_) (a' := ?_) #[true, true, true, true, true, true, true, true, true, true, true, true, true, true, true, true, true, true, true, false, false, false, false, false, false, false, false, false, false, false, false, false, false, false, false, false] rfl rfl (any_of HT_.out (by kernel_rfl)) (fun _ _ _ h => h) (Or.inl ⟨by rfl, ?_⟩) ?_ ?_
  rotate_left
  · intro w'
    go_simp
    with_reducible rfl
  rotate_left
  · simp only [Act.put, List.setIfInBounds_toArray, List.set_cons_zero, List.set_cons_succ, i64_w, i32_w]
    rfl
  refine pure_ (i := 19) (N := some 50) (v := ?_) (a' := ?_) #[true, true, true, true, true, true, true, true, true, true, true, true, true, true, true, true, true, true, true, true, false, false, false, false, false, false, false, false, false, false, false, false, false, false, false, false] rfl rfl (any_of HT_.out (by kernel_rfl)) (fun _ _ _ h => h) (Or.inl ⟨by rfl, ?_⟩) ?_ ?_
  rotate_left
  · intro w'
    go_simp
    with_reducible rfl
  rotate_left
  · simp only [Act.put, List.setIfInBounds_toArray, List.set_cons_zero, List.set_cons_succ, i64_w, i32_w]
    rfl
  refine pure_ (i := 20) (N := some 51) (v := ?_) (a' := ?_) #[true, true, true, true, true, true, true, true, true, true, true, true, true, true, true, true, true, true, true, true, true, false, false, false, false, false, false, false, false, false, false, false, false, false, false, false] rfl rfl (any_of HT_.out (by kernel_rfl)) (fun _ _ _ h => h) (Or.inl ⟨by rfl, ?_⟩) ?_ ?_
  rotate_left
  · intro w'
    go_simp
    with_reducible rfl
  rotate_left
  · simp only [Act.put, List.setIfInBounds_toArray, List.set_cons_zero, List.set_cons_succ, i64_w, i32_w]
    rfl
  refine pure_ (i := 21) (N := some 52) (v := ?_) (a' := ?_) #[true, true, true, true, true, true, true, true, true, true, true, true, true, true, true, true, true, true, true, true, true, true, false, false, false, false, false, false, false, false, false, false, false, false, false, false] rfl rfl (any_of HT_.out (by kernel_rfl)) (fun _ _ _ h => h) (Or.inl ⟨by rfl, ?_⟩) ?_ ?_
  rotate_left
  · intro w'
    go_simp
    with_reducible rfl
  rotate_left
  · simp only [Act.put, List.setIfInBounds_toArray, List.set_cons_zero, List.set_cons_succ, i64_w, i32_w]
    rfl
  refine pure_ (i := 22) (N := some 53) (v := ?_) (a' := ?_) #[true, true, true, true, true, true, true, true, true, true, true, true, true, true, true, true, true, true, true, true, true, true, true, false, false, false, false, false, false, false, false, false, false, false, false, false] rfl rfl (any_of HT_.out (by kernel_rfl)) (fun _ _ _ h => h) (Or.inl ⟨by rfl, ?_⟩) ?_ ?_
  rotate_left
  · intro w'
    go_simp
    with_reducible rfl
  rotate_left
  · simp only [Act.put, List.setIfInBounds_toArray, List.set_cons_zero, List.set_cons_succ, i64_w, i32_w]
    rfl
  refine pure_ (i := 23) (N := some 54) (v := ?_) (a' := ?_) #[true, true, true, true, true, true, true, true, true, true, true, true, true, true, true, true, true, true, true, true, true, true, true, true, false, false, false, false, false, false, false, false, false, false, false, false] rfl rfl (any_of HT_.out (by kernel_rfl)) (fun _ _ _ h => h) (Or.inl ⟨by rfl, ?_⟩) ?_ ?_
  rotate_left
  · intro w'
    go_simp
    with_reducible rfl
  rotate_left
  · simp only [Act.put, List.setIfInBounds_toArray, List.set_cons_zero, List.set_cons_succ, i64_w, i32_w]
    rfl
  refine take_ (i := 24) (N := some 55) (v := ?_) (a' := ?_) #[true, true, true, true, true, true, true, true, true, true, true, true, true, true, true, true, true, true, true, true, true, true, true, true, true, false, false, false, false, false, false, false, false, false, false, false] rfl rfl (take_ofW HT_.out HW_.out (by kernel_rfl)) (fun _ _ _ h => h) (Or.inl ⟨by rfl, ?_⟩) hHeld ?_ ?_
  rotate_left
  · rintro w' ⟨s0, s1, s2, s3, s4⟩
    go_simp
    with_reducible rfl
  rotate_left
  · simp only [Act.put, List.setIfInBounds_toArray, List.set_cons_zero, List.set_cons_succ, i64_w, i32_w]
    rfl
  refine one_ (i := 25) (N := some 56) #[true, true, true, true, true, true, true, true, true, true, true, true, true, true, true, true, true, true, true, true, true, true, true, true, true, true, false, false, false, false, false, false, false, false, false, false] rfl rfl (one_of HT_.out (by kernel_rfl)) (by decide) (fun K hK => ?_)
  refine Kd.R_lit_step (Kd.int .i64) _ 3 ?hg (N := 56) ?hd (xs := ([4, 9] : List Int)) (inner := [.int .i64 4, .int .i64 9]) (ok := fun _ => True) (okp := fun _ => True) ?hr ?hp (fun _ hk => hk) trivial (Below.refl _ _) (Nat.le_refl _) (by simp) ?_; (case hd => rfl); (case hg => rfl); (case hr => first | (go_simp; done) | (go_simp; rfl)); (case hp => exact (Reps.one (show Kd.M (Kd.int .i64) _ _ _ 4 [.int .i64 4] from rfl) (Reps.one (show Kd.M (Kd.int .i64) _ _ _ 9 [.int .i64 9] from rfl) (Reps.none _ _))))
  intro v210 w38 ho39 hb hg_ hnew_
  clear hg_ hnew_
  (first | rw [← Ny209.out] at ho39 | (simp only [Int.reduceToNat] at ho39; rw [← Ny209.out] at ho39))
  have n0_ := Aside0.mk (Kd.R_below (by (with_reducible repeat (first | apply Kd.R_alloc | apply Kd.R_drewN | apply Kd.R_drew)); exact HO187.out) hb)
  have n1_ := Aside0.mk (Kd.R_elder' (by (with_reducible repeat (first | apply Kd.R_alloc | apply Kd.R_drewN | apply Kd.R_drew)); exact HO198.out) (Kd.R_base ho39) hb)
  have n2_ := Aside0.mk (Kd.R_below (by (with_reducible repeat (first | apply Kd.R_alloc | apply Kd.R_drewN | apply Kd.R_drew)); exact HO203.out) hb)
  have n3_ := Aside0.mk (Kd.R_below (by (with_reducible repeat (first | apply Kd.R_alloc | apply Kd.R_drewN | apply Kd.R_drew)); exact HO206.out) hb)
  have n4_ := Aside0.mk (Kd.R_lower (Kd.R_new' ho39 (Kd.R_lt (by (with_reducible repeat (first | apply Kd.R_alloc | apply Kd.R_drewN | apply Kd.R_drew)); exact HO198.out))) (below_size (by repeat (first | (with_reducible first | exact HB.out | apply below_alloc | apply pw_below_drewN | apply below_drew1 | refine below_set ?_ GE189.out | refine below_set ?_ GE193.out | refine below_set ?_ GE208.out) | exact HB.out))))
  have n5_ := Aside0.mk (blk_below (g := gb189) (o := .cells #[.int .i64 t183, .int .u64 t184, .slice Ao19 t185.length co19] 25 (0, 0)) (by (with_reducible repeat (first | refine blk_drewN ?_ _ | refine blk_drew ?_ | refine blk_alloc ?_ _)); exact BK189.out) hb)
  have n6_ := Aside0.mk (blk_below (g := gb193) (o := .cells #[.int .u64 t190, .int .i64 t191] 35 (0, 0)) (by (with_reducible repeat (first | refine blk_drewN ?_ _ | refine blk_drew ?_ | refine blk_alloc ?_ _)); exact BK193.out) hb)
  have n7_ := Aside0.mk (blk_below (g := gb208) (o := .cells #[.int .i64 t199, .int .u64 t200, .slice Ao35 t201.length co35] 25 (0, 0)) (by (with_reducible repeat (first | refine blk_drewN ?_ _ | refine blk_drew ?_ | refine blk_alloc ?_ _)); exact BK208.out) hb)
  have n8_ := Aside0.mk (below_step (by repeat (first | (with_reducible first | exact HB.out | apply below_alloc | apply pw_below_drewN | apply below_drew1 | refine below_set ?_ GE189.out | refine below_set ?_ GE193.out | refine below_set ?_ GE208.out) | exact HB.out)) hb)
  clear HO187
  clear HO198
  clear HO203
  clear HO206
  clear BK189
  clear BK193
  clear BK208
  clear HB
  have HO187 := n0_
  have HO198 := n1_
  have HO203 := n2_
  have HO206 := n3_
  have HO211 := n4_
  have BK189 := n5_
  have BK193 := n6_
  have BK208 := n7_
  have HB := n8_
  clear n0_ n1_ n2_ n3_ n4_ n5_ n6_ n7_ n8_
  clear hb ho39
  obtain ⟨Ao40, co40, eo40⟩ := Kd.R_slice HO211.out
  (first | subst eo40 | (injection eo40 with f1_ f2_ f3_; have f4_ := f1_.symm; have f5_ := f3_.symm; clear f1_ f2_ f3_; subst f4_; subst f5_))
  refine hK.out _ _ ⟨(blk_cell BK193.out 0).trans rfl, (blk_cell BK193.out 1).trans rfl, (blk_cell BK208.out 0).trans rfl, (blk_cell BK208.out 1).trans rfl, (blk_cell BK208.out 2).trans rfl⟩ (fun hHeld => ?_)
  clear hK K
  refine norm_ (a' := ?_) ?_ ?_
  rotate_left
  · show Act.put _ (some 56) _ = _
    simp only [Act.put, List.setIfInBounds_toArray, List.set_cons_zero, List.set_cons_succ, i64_w, i32_w]
    rfl
  refine one_ (i := 26) (N := some 57) #[true, true, true, true, true, true, true, true, true, true, true, true, true, true, true, true, true, true, true, true, true, true, true, true, true, true, true, false, false, false, false, false, false, false, false, false] rfl rfl (one_of HT_.out (by kernel_rfl)) (by decide) (fun K hK => ?_)
  refine goes_ Try.func35 (by kernel_rfl) rfl #[.slice Ao40 y209.length co40] (by rfl) rfl rfl (by (try simp only [List.map_toArray, List.map_cons, List.map_nil]); first | done | rfl | (simp only [List.length_drop, List.length_take]; rfl)) ?_
  with_reducible refine (L05_held.calls k _ _ y209 t212 _ ?side1 ?side2 A11.out).mono ?_
  (case side1 => repeat (first | exact (Kd.R_reads' HO211.out).2.2 | (with_reducible refine Kd.C_alloc ?_ _) | (with_reducible refine Kd.C_drewN ?_ _) | (with_reducible refine Kd.C_drew ?_)))
  (case side2 => exact (Kd.R_reads' HO211.out).2.1)
  rintro e w41 ⟨v213, rfl, ho0, hb⟩
  refine ⟨_, rfl, ?_⟩
  have n0_ := Aside0.mk (Kd.R_elder' (by (with_reducible repeat (first | apply Kd.R_alloc | apply Kd.R_drewN | apply Kd.R_drew)); exact HO187.out) (Kd.R_base ho0) hb)
  have n1_ := Aside0.mk (Kd.R_below (by (with_reducible repeat (first | apply Kd.R_alloc | apply Kd.R_drewN | apply Kd.R_drew)); exact HO198.out) hb)
  have n2_ := Aside0.mk (Kd.R_elder' (by (with_reducible repeat (first | apply Kd.R_alloc | apply Kd.R_drewN | apply Kd.R_drew)); exact HO203.out) (Kd.R_base ho0) hb)
  have n3_ := Aside0.mk (Kd.R_elder' (by (with_reducible repeat (first | apply Kd.R_alloc | apply Kd.R_drewN | apply Kd.R_drew)); exact HO206.out) (Kd.R_base ho0) hb)
  have n4_ := Aside0.mk (Kd.R_below (by (with_reducible repeat (first | apply Kd.R_alloc | apply Kd.R_drewN | apply Kd.R_drew)); exact HO211.out) hb)
  have n5_ := Aside0.mk (Kd.R_lower (Kd.R_newB (Kd.R_new' (Kd.R_new' (Kd.R_new' ho0 (Kd.R_lt (by (with_reducible repeat (first | apply Kd.R_alloc | apply Kd.R_drewN | apply Kd.R_drew)); exact HO187.out))) (Kd.R_lt (by (with_reducible repeat (first | apply Kd.R_alloc | apply Kd.R_drewN | apply Kd.R_drew)); exact HO203.out))) (Kd.R_lt (by (with_reducible repeat (first | apply Kd.R_alloc | apply Kd.R_drewN | apply Kd.R_drew)); exact HO206.out))) (g := gb193) (o := .cells #[.int .u64 t190, .int .i64 t191] 35 (0, 0)) (by (with_reducible repeat (first | refine blk_drewN ?_ _ | refine blk_drew ?_ | refine blk_alloc ?_ _)); exact BK193.out)) (below_size (by repeat (first | (with_reducible first | exact HB.out | apply below_alloc | apply pw_below_drewN | apply below_drew1 | refine below_set ?_ GE189.out | refine below_set ?_ GE193.out | refine below_set ?_ GE208.out) | exact HB.out))))
  have n6_ := Aside0.mk (blk_below (g := gb189) (o := .cells #[.int .i64 t183, .int .u64 t184, .slice Ao19 t185.length co19] 25 (0, 0)) (by (with_reducible repeat (first | refine blk_drewN ?_ _ | refine blk_drew ?_ | refine blk_alloc ?_ _)); exact BK189.out) hb)
  have n7_ := Aside0.mk (blk_below (g := gb193) (o := .cells #[.int .u64 t190, .int .i64 t191] 35 (0, 0)) (by (with_reducible repeat (first | refine blk_drewN ?_ _ | refine blk_drew ?_ | refine blk_alloc ?_ _)); exact BK193.out) hb)
  have n8_ := Aside0.mk (blk_below (g := gb208) (o := .cells #[.int .i64 t199, .int .u64 t200, .slice Ao35 t201.length co35] 25 (0, 0)) (by (with_reducible repeat (first | refine blk_drewN ?_ _ | refine blk_drew ?_ | refine blk_alloc ?_ _)); exact BK208.out) hb)
  have n9_ := Aside0.mk (below_step (by repeat (first | (with_reducible first | exact HB.out | apply below_alloc | apply pw_below_drewN | apply below_drew1 | refine below_set ?_ GE189.out | refine below_set ?_ GE193.out | refine below_set ?_ GE208.out) | exact HB.out)) hb)
  clear HO187
  clear HO198
  clear HO203
  clear HO206
  clear HO211
  clear BK189
  clear BK193
  clear BK208
  clear HB
  have HO187 := n0_
  have HO198 := n1_
  have HO203 := n2_
  have HO206 := n3_
  have HO211 := n4_
  have HO214 := n5_
  have BK189 := n6_
  have BK193 := n7_
  have BK208 := n8_
  have HB := n9_
  clear n0_ n1_ n2_ n3_ n4_ n5_ n6_ n7_ n8_ n9_
  (try clear hb)
  (try clear hb2)
  (try clear hk)
  (try clear hi)
  (try clear ho0)
  obtain ⟨Ao42, co42, eo42⟩ := Kd.R_slice HO214.out
  (first | subst eo42 | (injection eo42 with f1_ f2_ f3_; have f4_ := f1_.symm; have f5_ := f3_.symm; clear f1_ f2_ f3_; subst f4_; subst f5_))
  refine hK.out _ _ ⟨(blk_cell BK193.out 0).trans rfl, (blk_cell BK193.out 1).trans rfl, (blk_cell BK208.out 0).trans rfl, (blk_cell BK208.out 1).trans rfl, (blk_cell BK208.out 2).trans rfl⟩ (fun hHeld => ?_)
  clear hK K
  refine norm_ (a' := ?_) ?_ ?_
  rotate_left
  · show Act.put _ (some 57) _ = _
    simp only [Act.put, List.setIfInBounds_toArray, List.set_cons_zero, List.set_cons_succ, i64_w, i32_w]
    rfl
  refine one_ (i := 27) (N := some 58) #[true, true, true, true, true, true, true, true, true, true, true, true, true, true, true, true, true, true, true, true, true, true, true, true, true, true, true, true, false, false, false, false, false, false, false, false] rfl rfl (one_of HT_.out (by kernel_rfl)) (by decide) (fun K hK => ?_)
  refine goes_ Try.func19 (by kernel_rfl) rfl #[.slice Ao35 t201.length co35, .slice Ao42 t212.length co42] (by rfl) rfl rfl (by (try simp only [List.map_toArray, List.map_cons, List.map_nil]); first | done | rfl | (simp only [List.length_drop, List.length_take]; rfl)) ?_
  with_reducible refine (K_SameHeld.calls k _ _ t201 _ _ t212 true _ ?side1 ?side2 ?side3 ?side4 A12.out).mono ?_
  (case side1 => repeat (first | exact (Kd.R_reads' HO203.out).2.2 | (with_reducible refine Kd.C_alloc ?_ _) | (with_reducible refine Kd.C_drewN ?_ _) | (with_reducible refine Kd.C_drew ?_)))
  (case side2 => exact (Kd.R_reads' HO203.out).2.1)
  (case side3 => repeat (first | exact (Kd.R_reads' HO214.out).2.2 | (with_reducible refine Kd.C_alloc ?_ _) | (with_reducible refine Kd.C_drewN ?_ _) | (with_reducible refine Kd.C_drew ?_)))
  (case side4 => exact (Kd.R_reads' HO214.out).2.1)
  rintro e w' ⟨rfl, ⟨nd, rfl⟩⟩
  refine ⟨_, rfl, ?_⟩
  refine hK.out _ _ ⟨(blk_cell BK193.out 0).trans rfl, (blk_cell BK193.out 1).trans rfl, (blk_cell BK208.out 0).trans rfl, (blk_cell BK208.out 1).trans rfl, (blk_cell BK208.out 2).trans rfl⟩ (fun hHeld => ?_)
  clear hK K
  refine norm_ (a' := ?_) ?_ ?_
  rotate_left
  · show Act.put _ (some 58) _ = _
    simp only [Act.put, List.setIfInBounds_toArray, List.set_cons_zero, List.set_cons_succ, i64_w, i32_w]
    rfl
  refine pure_ (i := 28) (N := some 59) (v := ?_) (a' := ?_) #[true, true, true, true, true, true, true, true, true, true, true, true, true, true, true, true, true, true, true, true, true, true, true, true, true, true, true, true, true, false, false, false, false, false, false, false] rfl rfl (any_of HT_.out (by kernel_rfl)) (fun _ _ _ h => h) (Or.inl ⟨by rfl, ?_⟩) ?_ ?_
  rotate_left
  · intro w'
    go_simp
    with_reducible rfl
  rotate_left
  · simp only [Act.put, List.setIfInBounds_toArray, List.set_cons_zero, List.set_cons_succ, i64_w, i32_w]
    rfl
  refine pure_ (i := 29) (N := some 60) (v := ?_) (a' := ?_) #[true, true, true, true, true, true, true, true, true, true, true, true, true, true, true, true, true, true, true, true, true, true, true, true, true, true, true, true, true, true, false, false, false, false, false, false] rfl rfl (any_of HT_.out (by kernel_rfl)) (fun _ _ _ h => h) (Or.inl ⟨by rfl, ?_⟩) ?_ ?_
  rotate_left
  · intro w'
    go_simp
    with_reducible rfl
  rotate_left
  · simp only [Act.put, List.setIfInBounds_toArray, List.set_cons_zero, List.set_cons_succ, i64_w, i32_w]
    rfl
  refine pure_ (i := 30) (N := some 61) (v := ?_) (a' := ?_) #[true, true, true, true, true, true, true, true, true, true, true, true, true, true, true, true, true, true, true, true, true, true, true, true, true, true, true, true, true, true, true, false, false, false, false, false] rfl rfl (any_of HT_.out (by kernel_rfl)) (fun _ _ _ h => h) (Or.inl ⟨by rfl, ?_⟩) ?_ ?_
  rotate_left
  · intro w'
    go_simp
    with_reducible rfl
  rotate_left
  · simp only [Act.put, List.setIfInBounds_toArray, List.set_cons_zero, List.set_cons_succ, i64_w, i32_w]
    rfl
  refine one_ (i := 31) (N := some 62) #[true, true, true, true, true, true, true, true, true, true, true, true, true, true, true, true, true, true, true, true, true, true, true, true, true, true, true, true, true, true, true, true, false, false, false, false] rfl rfl (one_of HT_.out (by kernel_rfl)) (by decide) (fun K hK => ?_)
  refine Kd.R_lit_step (Kd.int .i64) _ 3 ?hg (N := 62) ?hd (xs := ([1, 7, 3, 7] : List Int)) (inner := [.int .i64 1, .int .i64 7, .int .i64 3, .int .i64 7]) (ok := fun _ => True) (okp := fun _ => True) ?hr ?hp (fun _ hk => hk) trivial (Below.refl _ _) (Nat.le_refl _) (by simp) ?_; (case hd => rfl); (case hg => rfl); (case hr => first | (go_simp; done) | (go_simp; rfl)); (case hp => exact (Reps.one (show Kd.M (Kd.int .i64) _ _ _ 1 [.int .i64 1] from rfl) (Reps.one (show Kd.M (Kd.int .i64) _ _ _ 7 [.int .i64 7] from rfl) (Reps.one (show Kd.M (Kd.int .i64) _ _ _ 3 [.int .i64 3] from rfl) (Reps.one (show Kd.M (Kd.int .i64) _ _ _ 7 [.int .i64 7] from rfl) (Reps.none _ _))))))
  intro v217 w43 ho44 hb hg_ hnew_
  clear hg_ hnew_
  (first | rw [← Ny216.out] at ho44 | (simp only [Int.reduceToNat] at ho44; rw [← Ny216.out] at ho44))
  have n0_ := Aside0.mk (Kd.R_below (by (with_reducible repeat (first | apply Kd.R_alloc | apply Kd.R_drewN | apply Kd.R_drew)); exact HO187.out) hb)
  have n1_ := Aside0.mk (Kd.R_elder' (by (with_reducible repeat (first | apply Kd.R_alloc | apply Kd.R_drewN | apply Kd.R_drew)); exact HO198.out) (Kd.R_base ho44) hb)
  have n2_ := Aside0.mk (Kd.R_below (by (with_reducible repeat (first | apply Kd.R_alloc | apply Kd.R_drewN | apply Kd.R_drew)); exact HO203.out) hb)
  have n3_ := Aside0.mk (Kd.R_below (by (with_reducible repeat (first | apply Kd.R_alloc | apply Kd.R_drewN | apply Kd.R_drew)); exact HO206.out) hb)
  have n4_ := Aside0.mk (Kd.R_elder' (by (with_reducible repeat (first | apply Kd.R_alloc | apply Kd.R_drewN | apply Kd.R_drew)); exact HO211.out) (Kd.R_base ho44) hb)
  have n5_ := Aside0.mk (Kd.R_below (by (with_reducible repeat (first | apply Kd.R_alloc | apply Kd.R_drewN | apply Kd.R_drew)); exact HO214.out) hb)
  have n6_ := Aside0.mk (Kd.R_lower (Kd.R_new' (Kd.R_new' ho44 (Kd.R_lt (by (with_reducible repeat (first | apply Kd.R_alloc | apply Kd.R_drewN | apply Kd.R_drew)); exact HO198.out))) (Kd.R_lt (by (with_reducible repeat (first | apply Kd.R_alloc | apply Kd.R_drewN | apply Kd.R_drew)); exact HO211.out))) (below_size (by repeat (first | (with_reducible first | exact HB.out | apply below_alloc | apply pw_below_drewN | apply below_drew1 | refine below_set ?_ GE189.out | refine below_set ?_ GE193.out | refine below_set ?_ GE208.out) | exact HB.out))))
  have n7_ := Aside0.mk (blk_below (g := gb189) (o := .cells #[.int .i64 t183, .int .u64 t184, .slice Ao19 t185.length co19] 25 (0, 0)) (by (with_reducible repeat (first | refine blk_drewN ?_ _ | refine blk_drew ?_ | refine blk_alloc ?_ _)); exact BK189.out) hb)
  have n8_ := Aside0.mk (blk_below (g := gb193) (o := .cells #[.int .u64 t190, .int .i64 t191] 35 (0, 0)) (by (with_reducible repeat (first | refine blk_drewN ?_ _ | refine blk_drew ?_ | refine blk_alloc ?_ _)); exact BK193.out) hb)
  have n9_ := Aside0.mk (blk_below (g := gb208) (o := .cells #[.int .i64 t199, .int .u64 t200, .slice Ao35 t201.length co35] 25 (0, 0)) (by (with_reducible repeat (first | refine blk_drewN ?_ _ | refine blk_drew ?_ | refine blk_alloc ?_ _)); exact BK208.out) hb)
  have n10_ := Aside0.mk (below_step (by repeat (first | (with_reducible first | exact HB.out | apply below_alloc | apply pw_below_drewN | apply below_drew1 | refine below_set ?_ GE189.out | refine below_set ?_ GE193.out | refine below_set ?_ GE208.out) | exact HB.out)) hb)
  clear HO187
  clear HO198
  clear HO203
  clear HO206
  clear HO211
  clear HO214
  clear BK189
  clear BK193
  clear BK208
  clear HB
  have HO187 := n0_
  have HO198 := n1_
  have HO203 := n2_
  have HO206 := n3_
  have HO211 := n4_
  have HO214 := n5_
  have HO218 := n6_
  have BK189 := n7_
  have BK193 := n8_
  have BK208 := n9_
  have HB := n10_
  clear n0_ n1_ n2_ n3_ n4_ n5_ n6_ n7_ n8_ n9_ n10_
  clear hb ho44
  obtain ⟨Ao45, co45, eo45⟩ := Kd.R_slice HO218.out
  (first | subst eo45 | (injection eo45 with f1_ f2_ f3_; have f4_ := f1_.symm; have f5_ := f3_.symm; clear f1_ f2_ f3_; subst f4_; subst f5_))
  refine hK.out _ _ ⟨(blk_cell BK193.out 0).trans rfl, (blk_cell BK193.out 1).trans rfl, (blk_cell BK208.out 0).trans rfl, (blk_cell BK208.out 1).trans rfl, (blk_cell BK208.out 2).trans rfl⟩ (fun hHeld => ?_)
  clear hK K
  refine norm_ (a' := ?_) ?_ ?_
  rotate_left
  · show Act.put _ (some 62) _ = _
    simp only [Act.put, List.setIfInBounds_toArray, List.set_cons_zero, List.set_cons_succ, i64_w, i32_w]
    rfl
  refine one_ (i := 32) (N := some 63) #[true, true, true, true, true, true, true, true, true, true, true, true, true, true, true, true, true, true, true, true, true, true, true, true, true, true, true, true, true, true, true, true, true, false, false, false] rfl rfl (one_of HT_.out (by kernel_rfl)) (by decide) (fun K hK => ?_)
  refine goes_ Try.func35 (by kernel_rfl) rfl #[.slice Ao45 y216.length co45] (by rfl) rfl rfl (by (try simp only [List.map_toArray, List.map_cons, List.map_nil]); first | done | rfl | (simp only [List.length_drop, List.length_take]; rfl)) ?_
  with_reducible refine (L05_held.calls k _ _ y216 t219 _ ?side1 ?side2 A14.out).mono ?_
  (case side1 => repeat (first | exact (Kd.R_reads' HO218.out).2.2 | (with_reducible refine Kd.C_alloc ?_ _) | (with_reducible refine Kd.C_drewN ?_ _) | (with_reducible refine Kd.C_drew ?_)))
  (case side2 => exact (Kd.R_reads' HO218.out).2.1)
  rintro e w46 ⟨v220, rfl, ho0, hb⟩
  refine ⟨_, rfl, ?_⟩
  have n0_ := Aside0.mk (Kd.R_elder' (by (with_reducible repeat (first | apply Kd.R_alloc | apply Kd.R_drewN | apply Kd.R_drew)); exact HO187.out) (Kd.R_base ho0) hb)
  have n1_ := Aside0.mk (Kd.R_below (by (with_reducible repeat (first | apply Kd.R_alloc | apply Kd.R_drewN | apply Kd.R_drew)); exact HO198.out) hb)
  have n2_ := Aside0.mk (Kd.R_elder' (by (with_reducible repeat (first | apply Kd.R_alloc | apply Kd.R_drewN | apply Kd.R_drew)); exact HO203.out) (Kd.R_base ho0) hb)
  have n3_ := Aside0.mk (Kd.R_elder' (by (with_reducible repeat (first | apply Kd.R_alloc | apply Kd.R_drewN | apply Kd.R_drew)); exact HO206.out) (Kd.R_base ho0) hb)
  have n4_ := Aside0.mk (Kd.R_below (by (with_reducible repeat (first | apply Kd.R_alloc | apply Kd.R_drewN | apply Kd.R_drew)); exact HO211.out) hb)
  have n5_ := Aside0.mk (Kd.R_elder' (by (with_reducible repeat (first | apply Kd.R_alloc | apply Kd.R_drewN | apply Kd.R_drew)); exact HO214.out) (Kd.R_base ho0) hb)
  have n6_ := Aside0.mk (Kd.R_below (by (with_reducible repeat (first | apply Kd.R_alloc | apply Kd.R_drewN | apply Kd.R_drew)); exact HO218.out) hb)
  have n7_ := Aside0.mk (Kd.R_lower (Kd.R_newB (Kd.R_new' (Kd.R_new' (Kd.R_new' (Kd.R_new' ho0 (Kd.R_lt (by (with_reducible repeat (first | apply Kd.R_alloc | apply Kd.R_drewN | apply Kd.R_drew)); exact HO187.out))) (Kd.R_lt (by (with_reducible repeat (first | apply Kd.R_alloc | apply Kd.R_drewN | apply Kd.R_drew)); exact HO203.out))) (Kd.R_lt (by (with_reducible repeat (first | apply Kd.R_alloc | apply Kd.R_drewN | apply Kd.R_drew)); exact HO206.out))) (Kd.R_lt (by (with_reducible repeat (first | apply Kd.R_alloc | apply Kd.R_drewN | apply Kd.R_drew)); exact HO214.out))) (g := gb193) (o := .cells #[.int .u64 t190, .int .i64 t191] 35 (0, 0)) (by (with_reducible repeat (first | refine blk_drewN ?_ _ | refine blk_drew ?_ | refine blk_alloc ?_ _)); exact BK193.out)) (below_size (by repeat (first | (with_reducible first | exact HB.out | apply below_alloc | apply pw_below_drewN | apply below_drew1 | refine below_set ?_ GE189.out | refine below_set ?_ GE193.out | refine below_set ?_ GE208.out) | exact HB.out))))
  have n8_ := Aside0.mk (blk_below (g := gb189) (o := .cells #[.int .i64 t183, .int .u64 t184, .slice Ao19 t185.length co19] 25 (0, 0)) (by (with_reducible repeat (first | refine blk_drewN ?_ _ | refine blk_drew ?_ | refine blk_alloc ?_ _)); exact BK189.out) hb)
  have n9_ := Aside0.mk (blk_below (g := gb193) (o := .cells #[.int .u64 t190, .int .i64 t191] 35 (0, 0)) (by (with_reducible repeat (first | refine blk_drewN ?_ _ | refine blk_drew ?_ | refine blk_alloc ?_ _)); exact BK193.out) hb)
  have n10_ := Aside0.mk (blk_below (g := gb208) (o := .cells #[.int .i64 t199, .int .u64 t200, .slice Ao35 t201.length co35] 25 (0, 0)) (by (with_reducible repeat (first | refine blk_drewN ?_ _ | refine blk_drew ?_ | refine blk_alloc ?_ _)); exact BK208.out) hb)
  have n11_ := Aside0.mk (below_step (by repeat (first | (with_reducible first | exact HB.out | apply below_alloc | apply pw_below_drewN | apply below_drew1 | refine below_set ?_ GE189.out | refine below_set ?_ GE193.out | refine below_set ?_ GE208.out) | exact HB.out)) hb)
  clear HO187
  clear HO198
  clear HO203
  clear HO206
  clear HO211
  clear HO214
  clear HO218
  clear BK189
  clear BK193
  clear BK208
  clear HB
  have HO187 := n0_
  have HO198 := n1_
  have HO203 := n2_
  have HO206 := n3_
  have HO211 := n4_
  have HO214 := n5_
  have HO218 := n6_
  have HO221 := n7_
  have BK189 := n8_
  have BK193 := n9_
  have BK208 := n10_
  have HB := n11_
  clear n0_ n1_ n2_ n3_ n4_ n5_ n6_ n7_ n8_ n9_ n10_ n11_
  (try clear hb)
  (try clear hb2)
  (try clear hk)
  (try clear hi)
  (try clear ho0)
  obtain ⟨Ao47, co47, eo47⟩ := Kd.R_slice HO206.out
  (first | subst eo47 | (injection eo47 with f1_ f2_ f3_; have f4_ := f1_.symm; have f5_ := f3_.symm; clear f1_ f2_ f3_; subst f4_; subst f5_))
  obtain ⟨Ao48, co48, eo48⟩ := Kd.R_slice HO221.out
  (first | subst eo48 | (injection eo48 with f1_ f2_ f3_; have f4_ := f1_.symm; have f5_ := f3_.symm; clear f1_ f2_ f3_; subst f4_; subst f5_))
  refine hK.out _ _ ⟨(blk_cell BK193.out 0).trans rfl, (blk_cell BK193.out 1).trans rfl, (blk_cell BK208.out 0).trans rfl, (blk_cell BK208.out 1).trans rfl, (blk_cell BK208.out 2).trans rfl⟩ (fun hHeld => ?_)
  clear hK K
  refine norm_ (a' := ?_) ?_ ?_
  rotate_left
  · show Act.put _ (some 63) _ = _
    simp only [Act.put, List.setIfInBounds_toArray, List.set_cons_zero, List.set_cons_succ, i64_w, i32_w]
    rfl
  refine one_ (i := 33) (N := some 64) #[true, true, true, true, true, true, true, true, true, true, true, true, true, true, true, true, true, true, true, true, true, true, true, true, true, true, true, true, true, true, true, true, true, true, false, false] rfl rfl (one_of HT_.out (by kernel_rfl)) (by decide) (fun K hK => ?_)
  refine goes_ Try.func19 (by kernel_rfl) rfl #[.slice Ao47 t204.length co47, .slice Ao48 t219.length co48] (by rfl) rfl rfl (by (try simp only [List.map_toArray, List.map_cons, List.map_nil]); first | done | rfl | (simp only [List.length_drop, List.length_take]; rfl)) ?_
  with_reducible refine (K_SameHeld.calls k _ _ t204 _ _ t219 true _ ?side1 ?side2 ?side3 ?side4 A15.out).mono ?_
  (case side1 => repeat (first | exact (Kd.R_reads' HO206.out).2.2 | (with_reducible refine Kd.C_alloc ?_ _) | (with_reducible refine Kd.C_drewN ?_ _) | (with_reducible refine Kd.C_drew ?_)))
  (case side2 => exact (Kd.R_reads' HO206.out).2.1)
  (case side3 => repeat (first | exact (Kd.R_reads' HO221.out).2.2 | (with_reducible refine Kd.C_alloc ?_ _) | (with_reducible refine Kd.C_drewN ?_ _) | (with_reducible refine Kd.C_drew ?_)))
  (case side4 => exact (Kd.R_reads' HO221.out).2.1)
  rintro e w' ⟨rfl, ⟨nd, rfl⟩⟩
  refine ⟨_, rfl, ?_⟩
  refine hK.out _ _ ⟨(blk_cell BK193.out 0).trans rfl, (blk_cell BK193.out 1).trans rfl, (blk_cell BK208.out 0).trans rfl, (blk_cell BK208.out 1).trans rfl, (blk_cell BK208.out 2).trans rfl⟩ (fun hHeld => ?_)
  clear hK K
  refine norm_ (a' := ?_) ?_ ?_
  rotate_left
  · show Act.put _ (some 64) _ = _
    simp only [Act.put, List.setIfInBounds_toArray, List.set_cons_zero, List.set_cons_succ, i64_w, i32_w]
    rfl
  refine pure_ (i := 34) (N := some 65) (v := ?_) (a' := ?_) #[true, true, true, true, true, true, true, true, true, true, true, true, true, true, true, true, true, true, true, true, true, true, true, true, true, true, true, true, true, true, true, true, true, true, true, false] rfl rfl (any_of HT_.out (by kernel_rfl)) (fun _ _ _ h => h) (Or.inl ⟨by rfl, ?_⟩) ?_ ?_
  rotate_left
  · intro w'
    go_simp
    with_reducible rfl
  rotate_left
  · simp only [Act.put, List.setIfInBounds_toArray, List.set_cons_zero, List.set_cons_succ, i64_w, i32_w]
    rfl
  refine pure_ (i := 35) (N := some 0) (v := ?_) (a' := ?_) #[true, true, true, true, true, true, true, true, true, true, true, true, true, true, true, true, true, true, true, true, true, true, true, true, true, true, true, true, true, true, true, true, true, true, true, true] rfl rfl (any_of HT_.out (by kernel_rfl)) (fun _ _ _ h => h) (Or.inl ⟨by rfl, ?_⟩) ?_ ?_
  rotate_left
  · intro w'
    go_simp
    with_reducible rfl
  rotate_left
  · simp only [Act.put, List.setIfInBounds_toArray, List.set_cons_zero, List.set_cons_succ, i64_w, i32_w]
    rfl
  refine done_ (done_of HT_.out (by kernel_rfl)) ?_
  try go_wp2
  all_goals go_ret
  all_goals exact ⟨by first | rfl | (simp [errW_none, errW_some] <;> rfl) | (simp [*, errW_none, errW_some] <;> rfl), by repeat (first | (with_reducible first | exact HB.out | apply below_alloc | apply pw_below_drewN | apply below_drew1 | refine below_set ?_ GE189.out | refine below_set ?_ GE193.out | refine below_set ?_ GE208.out) | exact HB.out)⟩


end Go.Proofs.Ytoekmdcldfmmcaa.F
end
section
namespace Go.Proofs.Ytoekmdcldfmmcaa.Pure
open Go.RowKit Go.Proofs.Ytoekmdcldfmmcaa.F Go.Proofs.YtoekmdcldfmmcaaW.PrintWords Go.Proofs.YtoekmdcldfmmcaaW.PrintLast
set_option linter.unusedVariables false
set_option linter.unusedSimpArgs false
theorem rdg {l : List S35} {i : Nat} (h : i < l.length) : rd_T35 l (i : Int) = l[i] := by simp [rd_T35, List.getD_eq_getElem?_getD, List.getElem?_eq_getElem h]
end Go.Proofs.Ytoekmdcldfmmcaa.Pure
end
section
namespace Go.Proofs.Ytoekmdcldfmmcaa.Pure
open Go.RowKit Go.Proofs.Ytoekmdcldfmmcaa.F Go.Proofs.YtoekmdcldfmmcaaW.PrintWords Go.Proofs.YtoekmdcldfmmcaaW.PrintLast
set_option linter.unusedVariables false
set_option linter.unusedSimpArgs false
theorem w_next {i : Nat} (h : i ≤ 4096) : wrap64 ((i : Int) + 1) = ((i + 1 : Nat) : Int) := by unfold wrap64; omega
end Go.Proofs.Ytoekmdcldfmmcaa.Pure
end
section
namespace Go.Proofs.Ytoekmdcldfmmcaa.Pure
open Go.RowKit Go.Proofs.Ytoekmdcldfmmcaa.F Go.Proofs.YtoekmdcldfmmcaaW.PrintWords Go.Proofs.YtoekmdcldfmmcaaW.PrintLast
set_option linter.unusedVariables false
set_option linter.unusedSimpArgs false
theorem w_prev {i : Nat} (h0 : 0 < i) (h : i ≤ 4096) : wrap64 ((i : Int) - 1) = ((i - 1 : Nat) : Int) := by unfold wrap64; omega
end Go.Proofs.Ytoekmdcldfmmcaa.Pure
end
section
namespace Go.Proofs.Ytoekmdcldfmmcaa.Pure
open Go.RowKit Go.Proofs.Ytoekmdcldfmmcaa.F Go.Proofs.YtoekmdcldfmmcaaW.PrintWords Go.Proofs.YtoekmdcldfmmcaaW.PrintLast
set_option linter.unusedVariables false
set_option linter.unusedSimpArgs false
def ckFrom (nx : Int) : Int → Nat → List S35 → Int × Int
  | _, _, [] => (0, 0)
  | pv, i, x :: r => if x.f0 < 1 ∨ x.f0 ≥ nx then (2, (i : Int)) else if x.f0 ≤ pv then (8, (i : Int)) else ckFrom nx x.f0 (i + 1) r
end Go.Proofs.Ytoekmdcldfmmcaa.Pure
end
section
namespace Go.Proofs.Ytoekmdcldfmmcaa.Pure
open Go.RowKit Go.Proofs.Ytoekmdcldfmmcaa.F Go.Proofs.YtoekmdcldfmmcaaW.PrintWords Go.Proofs.YtoekmdcldfmmcaaW.PrintLast
set_option linter.unusedVariables false
set_option linter.unusedSimpArgs false
def ckS (a0 a1 : Int) (l : List S35) : Int × Int := if a0 < 1 ∨ a0 > 32 ∨ a1 < 1 ∨ a1 > 1099511627777 then (2, 0) else if (l.length : Int) > a0 then (5, 0) else ckFrom a1 0 0 l
end Go.Proofs.Ytoekmdcldfmmcaa.Pure
end
section
namespace Go.Proofs.Ytoekmdcldfmmcaa.Pure
open Go.RowKit Go.Proofs.Ytoekmdcldfmmcaa.F Go.Proofs.YtoekmdcldfmmcaaW.PrintWords Go.Proofs.YtoekmdcldfmmcaaW.PrintLast
set_option linter.unusedVariables false
set_option linter.unusedSimpArgs false
def pvOf (l : List S35) (i : Nat) : Int := if i = 0 then 0 else (rd_T35 l ((i - 1 : Nat) : Int)).f0
end Go.Proofs.Ytoekmdcldfmmcaa.Pure
end
section
namespace Go.Proofs.Ytoekmdcldfmmcaa.Pure
open Go.RowKit Go.Proofs.Ytoekmdcldfmmcaa.F Go.Proofs.YtoekmdcldfmmcaaW.PrintWords Go.Proofs.YtoekmdcldfmmcaaW.PrintLast
set_option linter.unusedVariables false
set_option linter.unusedSimpArgs false
theorem chkl (nx a0 : Int) (l : List S35) (hl : l.length ≤ 32) : ∀ (m k i : Nat), m = l.length - i → i ≤ l.length → 2 * m + 1 ≤ k → ring_Check.l0 k l (l.length : Int) (i : Int) a0 nx l = some (ckFrom nx (pvOf l i) i (l.drop i)) := by
  intro m
  induction m with
  | zero =>
    intro k i hm hi hk
    obtain ⟨k, rfl⟩ : ∃ k', k = k' + 1 := ⟨k - 1, by omega⟩
    obtain rfl : i = l.length := by omega
    simp only [ring_Check.l0]
    rw [if_neg (by omega), List.drop_length]
    rfl
  | succ m ih =>
    intro k i hm hi hk
    obtain ⟨k, rfl⟩ : ∃ k', k = k' + 2 := ⟨k - 2, by omega⟩
    have hlt : i < l.length := by omega
    rw [List.drop_eq_getElem_cons hlt, ← rdg hlt]
    simp only [ring_Check.l0, ckFrom]
    rw [if_pos (by omega), if_pos (by omega), if_pos (by omega)]
    have hnx := ih k (i + 1) (by omega) (by omega) (by omega)
    have hpv : pvOf l (i + 1) = (rd_T35 l (i : Int)).f0 := by unfold pvOf; rw [if_neg (by omega)]; rfl
    rw [hpv] at hnx
    by_cases c1 : (rd_T35 l (i : Int)).f0 < 1
    · rw [if_pos c1, if_pos (Or.inl c1)]
      simp only [ring_Check.j2]
      rfl
    · rw [if_neg c1]
      by_cases c2 : (rd_T35 l (i : Int)).f0 ≥ nx
      · rw [if_pos (Or.inr c2), decide_eq_true c2]
        simp only [ring_Check.j2]
        rfl
      · rw [if_neg (show ¬ ((rd_T35 l (i : Int)).f0 < 1 ∨ (rd_T35 l (i : Int)).f0 ≥ nx) by omega), decide_eq_false c2]
        simp only [ring_Check.j2]
        rw [if_neg (by decide)]
        rw [w_next (by omega), hnx]
        by_cases c3 : i = 0
        · subst c3
          rw [if_neg (by omega), if_neg (show ¬ (rd_T35 l ((0 : Nat) : Int)).f0 ≤ pvOf l 0 by unfold pvOf; simp only [↓reduceIte]; omega)]
        · rw [if_pos (by omega), w_prev (by omega) (by omega), if_pos (by omega), if_pos (by omega)]
          have hp : pvOf l i = (rd_T35 l ((i - 1 : Nat) : Int)).f0 := by unfold pvOf; rw [if_neg c3]
          rw [hp]
          by_cases c4 : (rd_T35 l (i : Int)).f0 ≤ (rd_T35 l ((i - 1 : Nat) : Int)).f0
          · rw [if_pos c4, if_pos c4]
          · rw [if_neg c4, if_neg c4]
end Go.Proofs.Ytoekmdcldfmmcaa.Pure
end
section
namespace Go.Proofs.Ytoekmdcldfmmcaa.Pure
open Go.RowKit Go.Proofs.Ytoekmdcldfmmcaa.F Go.Proofs.YtoekmdcldfmmcaaW.PrintWords Go.Proofs.YtoekmdcldfmmcaaW.PrintLast
set_option linter.unusedVariables false
set_option linter.unusedSimpArgs false
theorem chk (k : Nat) (hk : 100 ≤ k) (a0 a1 : Int) (l : List S35) : ring_Check.f k a0 a1 l = some (ckS a0 a1 l) := by
  have hT : ring_Check.j0 k true a0 a1 l = some (2, 0) := by
    obtain ⟨k, rfl⟩ : ∃ k', k = k' + 1 := ⟨k - 1, by omega⟩
    simp [ring_Check.j0]
  unfold ring_Check.f ckS
  by_cases c1 : a0 < 1
  · rw [if_pos c1, if_pos (Or.inl c1), hT]
  · rw [if_neg c1]
    by_cases c2 : a0 > 32
    · rw [if_pos c2, if_pos (Or.inr (Or.inl c2)), hT]
    · rw [if_neg c2]
      by_cases c3 : a1 < 1
      · rw [if_pos c3, if_pos (Or.inr (Or.inr (Or.inl c3))), hT]
      · rw [if_neg c3]
        by_cases c4 : a1 > 1099511627777
        · rw [decide_eq_true c4, if_pos (Or.inr (Or.inr (Or.inr c4))), hT]
        · rw [decide_eq_false c4, if_neg (show ¬ (a0 < 1 ∨ a0 > 32 ∨ a1 < 1 ∨ a1 > 1099511627777) by omega)]
          obtain ⟨k, rfl⟩ : ∃ k', k = k' + 1 := ⟨k - 1, by omega⟩
          simp only [ring_Check.j0]
          rw [if_neg (by decide)]
          by_cases c5 : (l.length : Int) > a0
          · rw [if_pos c5, if_pos c5]
          · rw [if_neg c5, if_neg c5]
            exact chkl a1 a0 l (by omega) l.length k 0 rfl (Nat.zero_le _) (by omega)
end Go.Proofs.Ytoekmdcldfmmcaa.Pure
end
section
namespace Go.Proofs.Ytoekmdcldfmmcaa.Pure
open Go.RowKit Go.Proofs.Ytoekmdcldfmmcaa.F Go.Proofs.YtoekmdcldfmmcaaW.PrintWords Go.Proofs.YtoekmdcldfmmcaaW.PrintLast
set_option linter.unusedVariables false
set_option linter.unusedSimpArgs false
/-- Numbers ascend, between lo and hi. -/
def Asc (lo hi : Int) (l : List S35) : Prop := l.Pairwise (fun x y => x.f0 < y.f0) ∧ ∀ x ∈ l, lo < x.f0 ∧ x.f0 < hi
end Go.Proofs.Ytoekmdcldfmmcaa.Pure
end
section
namespace Go.Proofs.Ytoekmdcldfmmcaa.Pure
open Go.RowKit Go.Proofs.Ytoekmdcldfmmcaa.F Go.Proofs.YtoekmdcldfmmcaaW.PrintWords Go.Proofs.YtoekmdcldfmmcaaW.PrintLast
set_option linter.unusedVariables false
set_option linter.unusedSimpArgs false
theorem ckFrom_asc (nx : Int) (l : List S35) : ∀ (pv : Int) (i : Nat), 0 ≤ pv → ((ckFrom nx pv i l).1 = 0 ↔ Asc pv nx l) := by
  induction l with
  | nil => intro pv i h; simp [ckFrom, Asc]
  | cons x r ih =>
    intro pv i h
    simp only [ckFrom]
    by_cases c1 : x.f0 < 1 ∨ x.f0 ≥ nx
    · rw [if_pos c1]
      refine ⟨fun e => by simp at e, fun e => ?_⟩
      have := e.2 x List.mem_cons_self
      omega
    · rw [if_neg c1]
      by_cases c2 : x.f0 ≤ pv
      · rw [if_pos c2]
        refine ⟨fun e => by simp at e, fun e => ?_⟩
        have := e.2 x List.mem_cons_self
        omega
      · rw [if_neg c2, ih x.f0 (i + 1) (by omega)]
        unfold Asc
        rw [List.pairwise_cons]
        constructor
        · rintro ⟨h1, h2⟩
          refine ⟨⟨fun y hy => (h2 y hy).1, h1⟩, fun y hy => ?_⟩
          rcases List.mem_cons.1 hy with rfl | hy
          · omega
          · have := h2 y hy; omega
        · rintro ⟨⟨h1, h2⟩, h3⟩
          exact ⟨h2, fun y hy => ⟨h1 y hy, (h3 y (List.mem_cons_of_mem _ hy)).2⟩⟩
end Go.Proofs.Ytoekmdcldfmmcaa.Pure
end
section
namespace Go.Proofs.Ytoekmdcldfmmcaa.Pure
open Go.RowKit Go.Proofs.Ytoekmdcldfmmcaa.F Go.Proofs.YtoekmdcldfmmcaaW.PrintWords Go.Proofs.YtoekmdcldfmmcaaW.PrintLast
set_option linter.unusedVariables false
set_option linter.unusedSimpArgs false
/-- What a valid ring is. -/
def Valid (a0 a1 : Int) (l : List S35) : Prop := 1 ≤ a0 ∧ a0 ≤ 32 ∧ 1 ≤ a1 ∧ a1 ≤ 1099511627777 ∧ (l.length : Int) ≤ a0 ∧ Asc 0 a1 l
end Go.Proofs.Ytoekmdcldfmmcaa.Pure
end
section
namespace Go.Proofs.Ytoekmdcldfmmcaa.Pure
open Go.RowKit Go.Proofs.Ytoekmdcldfmmcaa.F Go.Proofs.YtoekmdcldfmmcaaW.PrintWords Go.Proofs.YtoekmdcldfmmcaaW.PrintLast
set_option linter.unusedVariables false
set_option linter.unusedSimpArgs false
theorem ckS_zero {a0 a1 : Int} {l : List S35} (h : (ckS a0 a1 l).1 = 0) : Valid a0 a1 l := by
  unfold ckS at h
  split at h
  · simp at h
  · split at h
    · simp at h
    · rename_i a b
      exact ⟨by omega, by omega, by omega, by omega, by omega, (ckFrom_asc a1 l 0 0 (by omega)).1 h⟩
end Go.Proofs.Ytoekmdcldfmmcaa.Pure
end
section
namespace Go.Proofs.Ytoekmdcldfmmcaa.Pure
open Go.RowKit Go.Proofs.Ytoekmdcldfmmcaa.F Go.Proofs.YtoekmdcldfmmcaaW.PrintWords Go.Proofs.YtoekmdcldfmmcaaW.PrintLast
set_option linter.unusedVariables false
set_option linter.unusedSimpArgs false
def findS (a0 a1 : Int) (l : List S35) (n : Int) : Int × Int := if (ckS a0 a1 l).1 = 0 then (if l.findIdx (fun x => x.f0 == n) < l.length then (((l.findIdx (fun x => x.f0 == n) : Nat) : Int), 0) else (0, 6)) else (0, (ckS a0 a1 l).1)
end Go.Proofs.Ytoekmdcldfmmcaa.Pure
end
section
namespace Go.Proofs.Ytoekmdcldfmmcaa.Pure
open Go.RowKit Go.Proofs.Ytoekmdcldfmmcaa.F Go.Proofs.YtoekmdcldfmmcaaW.PrintWords Go.Proofs.YtoekmdcldfmmcaaW.PrintLast
set_option linter.unusedVariables false
set_option linter.unusedSimpArgs false
/-- The binary search finds the border. -/
theorem bs_border (l : List S35) (n : Int) (hp : l.Pairwise (fun x y => x.f0 < y.f0)) : ∀ (k i j : Nat), i ≤ j → j ≤ l.length → j - i ≤ k → (∀ m, m < i → m < l.length → (rd_T35 l (m : Int)).f0 < n) → (∀ m, j ≤ m → m < l.length → n ≤ (rd_T35 l (m : Int)).f0) →
    bsR l n k i j ≤ l.length ∧ (∀ m, m < bsR l n k i j → m < l.length → (rd_T35 l (m : Int)).f0 < n) ∧ (∀ m, bsR l n k i j ≤ m → m < l.length → n ≤ (rd_T35 l (m : Int)).f0) := by
  have hpw : ∀ a b, a < b → b < l.length → (rd_T35 l (a : Int)).f0 < (rd_T35 l (b : Int)).f0 := by
    intro a b h1 h2
    rw [rdg (show a < l.length by omega), rdg h2]
    exact List.pairwise_iff_getElem.1 hp a b (by omega) h2 h1
  intro k
  induction k with
  | zero =>
    intro i j hij hj hk h1 h2
    obtain rfl : i = j := by omega
    exact ⟨hj, h1, h2⟩
  | succ k ih =>
    intro i j hij hj hk h1 h2
    simp only [bsR]
    by_cases c : i < j
    · rw [if_pos c]
      by_cases d : (rd_T35 l (((i + j) / 2 : Nat) : Int)).f0 < n
      · rw [if_pos d]
        refine ih _ _ (by omega) hj (by omega) (fun m hm hml => ?_) h2
        by_cases e : m = (i + j) / 2
        · subst e; exact d
        · have := hpw m ((i + j) / 2) (by omega) (by omega); omega
      · rw [if_neg d]
        refine ih _ _ (by omega) (by omega) (by omega) h1 (fun m hm hml => ?_)
        by_cases e : m = (i + j) / 2
        · subst e; omega
        · have := hpw ((i + j) / 2) m (by omega) hml; omega
    · rw [if_neg c]
      obtain rfl : i = j := by omega
      exact ⟨hj, h1, h2⟩
end Go.Proofs.Ytoekmdcldfmmcaa.Pure
end
section
namespace Go.Proofs.Ytoekmdcldfmmcaa.Pure
open Go.RowKit Go.Proofs.Ytoekmdcldfmmcaa.F Go.Proofs.YtoekmdcldfmmcaaW.PrintWords Go.Proofs.YtoekmdcldfmmcaaW.PrintLast
set_option linter.unusedVariables false
set_option linter.unusedSimpArgs false
theorem find_ (a0 a1 : Int) (l : List S35) (n : Int) : ring_Find.f a0 a1 l n = some (findS a0 a1 l n) := by
  unfold ring_Find.f findS
  rw [chk 4096 (by omega)]
  simp only [Option.bind_some]
  by_cases c : (ckS a0 a1 l).1 = 0
  · have hv := ckS_zero c
    have h5 := hv.2.2.2.2.1
    have h2 := hv.2.1
    rw [if_pos c, if_pos c, if_pos (by omega)]
    obtain ⟨b1, b2, b3⟩ := bs_border l n hv.2.2.2.2.2.1 l.length 0 l.length (Nat.zero_le _) (Nat.le_refl _) (by omega) (fun m h => by omega) (fun m h h' => by omega)
    generalize bsR l n l.length 0 l.length = R at b1 b2 b3 ⊢
    by_cases d : R < l.length ∧ (rd_T35 l (R : Int)).f0 = n
    · have hidx : l.findIdx (fun x => x.f0 == n) = R := by
        rw [List.findIdx_eq d.1]
        refine ⟨by have := d.2; rw [rdg d.1] at this; simpa using this, fun j hj => ?_⟩
        have := b2 j hj (by omega)
        rw [rdg (by omega)] at this
        simp; omega
      rw [if_pos d, hidx, if_pos d.1]
    · rw [if_neg d, if_neg]
      intro hlt
      have hat := List.findIdx_getElem (w := hlt)
      simp only [beq_iff_eq] at hat
      rw [← rdg hlt] at hat
      generalize l.findIdx (fun x => x.f0 == n) = F at hlt hat
      rcases Nat.lt_trichotomy F R with h | h | h
      · have := b2 F h hlt; omega
      · subst h; exact d ⟨hlt, hat⟩
      · have h3 := b3 R (Nat.le_refl _) (by omega)
        have hpw := List.pairwise_iff_getElem.1 hv.2.2.2.2.2.1 R F (by omega) hlt h
        rw [← rdg (show R < l.length by omega), ← rdg hlt] at hpw
        omega
  · rw [if_neg c, if_neg c]
end Go.Proofs.Ytoekmdcldfmmcaa.Pure
end
section
namespace Go.Proofs.Ytoekmdcldfmmcaa.Pure
open Go.RowKit Go.Proofs.Ytoekmdcldfmmcaa.F Go.Proofs.YtoekmdcldfmmcaaW.PrintWords Go.Proofs.YtoekmdcldfmmcaaW.PrintLast
set_option linter.unusedVariables false
set_option linter.unusedSimpArgs false
theorem sameHeldl (l : List S35) (hl : l.length ≤ 4096) : ∀ (m k i : Nat), m = l.length - i → i ≤ l.length → m + 1 ≤ k → K_SameHeld.l0 k l l (i : Int) = some true := by
  intro m
  induction m with
  | zero =>
    intro k i hm hi hk
    obtain ⟨k, rfl⟩ : ∃ k', k = k' + 1 := ⟨k - 1, by omega⟩
    obtain rfl : i = l.length := by omega
    simp only [K_SameHeld.l0]
    rw [if_neg (by omega)]
  | succ m ih =>
    intro k i hm hi hk
    obtain ⟨k, rfl⟩ : ∃ k', k = k' + 1 := ⟨k - 1, by omega⟩
    have hlt : i < l.length := by omega
    simp only [K_SameHeld.l0]
    rw [if_pos (by omega), if_pos (by omega), if_pos (by omega), if_neg (by simp), w_next (by omega)]
    exact ih k (i + 1) (by omega) (by omega) (by omega)
end Go.Proofs.Ytoekmdcldfmmcaa.Pure
end
section
namespace Go.Proofs.Ytoekmdcldfmmcaa.Pure
open Go.RowKit Go.Proofs.Ytoekmdcldfmmcaa.F Go.Proofs.YtoekmdcldfmmcaaW.PrintWords Go.Proofs.YtoekmdcldfmmcaaW.PrintLast
set_option linter.unusedVariables false
set_option linter.unusedSimpArgs false
theorem sameHeld (l : List S35) (k : Nat) (hl : l.length ≤ 100) (hk : 200 ≤ k) : K_SameHeld.f k l l = some true := by
  unfold K_SameHeld.f
  rw [if_pos rfl]
  exact sameHeldl l (by omega) l.length k 0 rfl (Nat.zero_le _) (by omega)
end Go.Proofs.Ytoekmdcldfmmcaa.Pure
end
section
namespace Go.Proofs.Ytoekmdcldfmmcaa.Pure
open Go.RowKit Go.Proofs.Ytoekmdcldfmmcaa.F Go.Proofs.YtoekmdcldfmmcaaW.PrintWords Go.Proofs.YtoekmdcldfmmcaaW.PrintLast
set_option linter.unusedVariables false
set_option linter.unusedSimpArgs false
def putS (a0 a1 : Int) (l : List S35) (w : Int) : Int × Int × List S35 × Int × Int :=
  if (ckS a0 a1 l).1 = 0 then (if (l.length : Int) = a0 then (0, 0, [], 0, 5) else if a1 > 1099511627776 then (0, 0, [], 0, 14) else (a0, a1 + 1, l ++ [⟨a1, w⟩], a1, 0)) else (0, 0, [], 0, (ckS a0 a1 l).1)
end Go.Proofs.Ytoekmdcldfmmcaa.Pure
end
section
namespace Go.Proofs.Ytoekmdcldfmmcaa.Pure
open Go.RowKit Go.Proofs.Ytoekmdcldfmmcaa.F Go.Proofs.YtoekmdcldfmmcaaW.PrintWords Go.Proofs.YtoekmdcldfmmcaaW.PrintLast
set_option linter.unusedVariables false
set_option linter.unusedSimpArgs false
theorem put_ (a0 a1 : Int) (l : List S35) (w : Int) : ring_Put.f a0 a1 l w = some (putS a0 a1 l w) := by
  unfold ring_Put.f putS
  rw [chk 4096 (by omega)]
  simp only [Option.bind_some]
  by_cases c : (ckS a0 a1 l).1 = 0
  · have hv := ckS_zero c
    have h5 := hv.2.2.2.2.1
    have h2 := hv.2.1
    have h3 := hv.2.2.1
    rw [if_pos c, if_pos c]
    by_cases d : (l.length : Int) = a0
    · rw [if_pos d, if_pos d]
    · rw [if_neg d, if_neg d]
      by_cases e : a1 > 1099511627776
      · rw [if_pos e, if_pos e]
      · rw [if_neg e, if_neg e, if_pos (by omega), if_pos (by omega)]
  · rw [if_neg c, if_neg c]
end Go.Proofs.Ytoekmdcldfmmcaa.Pure
end
section
namespace Go.Proofs.Ytoekmdcldfmmcaa.Pure
open Go.RowKit Go.Proofs.Ytoekmdcldfmmcaa.F Go.Proofs.YtoekmdcldfmmcaaW.PrintWords Go.Proofs.YtoekmdcldfmmcaaW.PrintLast
set_option linter.unusedVariables false
set_option linter.unusedSimpArgs false
def dropS (a0 a1 : Int) (l : List S35) (n : Int) : Int × Int × List S35 × Int × Int × Int :=
  if (findS a0 a1 l n).2 = 0 then (a0, a1, l.take (l.findIdx (fun x => x.f0 == n)) ++ l.drop (l.findIdx (fun x => x.f0 == n) + 1), (rd_T35 l (l.findIdx (fun x => x.f0 == n) : Nat)).f0, (rd_T35 l (l.findIdx (fun x => x.f0 == n) : Nat)).f1, 0) else (0, 0, [], 0, 0, (findS a0 a1 l n).2)
end Go.Proofs.Ytoekmdcldfmmcaa.Pure
end
section
namespace Go.Proofs.Ytoekmdcldfmmcaa.Pure
open Go.RowKit Go.Proofs.Ytoekmdcldfmmcaa.F Go.Proofs.YtoekmdcldfmmcaaW.PrintWords Go.Proofs.YtoekmdcldfmmcaaW.PrintLast
set_option linter.unusedVariables false
set_option linter.unusedSimpArgs false
theorem findS_zero {a0 a1 : Int} {l : List S35} {n : Int} (h : (findS a0 a1 l n).2 = 0) : (ckS a0 a1 l).1 = 0 ∧ l.findIdx (fun x => x.f0 == n) < l.length ∧ (findS a0 a1 l n).1 = (l.findIdx (fun x => x.f0 == n) : Nat) := by
  unfold findS at h ⊢
  by_cases c : (ckS a0 a1 l).1 = 0
  · rw [if_pos c] at h ⊢
    by_cases d : l.findIdx (fun x => x.f0 == n) < l.length
    · rw [if_pos d]; exact ⟨c, d, rfl⟩
    · rw [if_neg d] at h; simp at h
  · rw [if_neg c] at h; exact absurd h c
end Go.Proofs.Ytoekmdcldfmmcaa.Pure
end
section
namespace Go.Proofs.Ytoekmdcldfmmcaa.Pure
open Go.RowKit Go.Proofs.Ytoekmdcldfmmcaa.F Go.Proofs.YtoekmdcldfmmcaaW.PrintWords Go.Proofs.YtoekmdcldfmmcaaW.PrintLast
set_option linter.unusedVariables false
set_option linter.unusedSimpArgs false
theorem drop_ (a0 a1 : Int) (l : List S35) (n : Int) : ring_Drop.f a0 a1 l n = some (dropS a0 a1 l n) := by
  unfold ring_Drop.f dropS
  rw [find_]
  simp only [Option.bind_some]
  by_cases c : (findS a0 a1 l n).2 = 0
  · obtain ⟨c1, c2, c3⟩ := findS_zero c
    have hv := ckS_zero c1
    have h5 := hv.2.2.2.2.1
    have h2 := hv.2.1
    rw [if_pos c, if_pos c, c3, if_pos (by omega), if_pos (by omega), if_pos (by omega)]
    rfl
  · rw [if_neg c, if_neg c]
end Go.Proofs.Ytoekmdcldfmmcaa.Pure
end
section
namespace Go.Proofs.Ytoekmdcldfmmcaa.Pure
open Go.RowKit Go.Proofs.Ytoekmdcldfmmcaa.F Go.Proofs.YtoekmdcldfmmcaaW.PrintWords Go.Proofs.YtoekmdcldfmmcaaW.PrintLast
set_option linter.unusedVariables false
set_option linter.unusedSimpArgs false
def wipeS (a0 a1 : Int) (l : List S35) (m : List Int) : Int × Int × List S35 × List S35 × Int :=
  if (ckS a0 a1 l).1 = 0 then (a0, a1, l.filter (fun h => !(m.contains h.f1)), l.filter (fun h => m.contains h.f1), 0) else (0, 0, [], [], (ckS a0 a1 l).1)
end Go.Proofs.Ytoekmdcldfmmcaa.Pure
end
section
namespace Go.Proofs.Ytoekmdcldfmmcaa.Pure
open Go.RowKit Go.Proofs.Ytoekmdcldfmmcaa.F Go.Proofs.YtoekmdcldfmmcaaW.PrintWords Go.Proofs.YtoekmdcldfmmcaaW.PrintLast
set_option linter.unusedVariables false
set_option linter.unusedSimpArgs false
theorem wipe_ (a0 a1 : Int) (l : List S35) (m : List Int) (hm : m.length ≤ 64) (hw : l.all (fun h => wfW h.f1) = true) (hwm : m.all wfW = true) : ring_Wipe.f a0 a1 l m = some (wipeS a0 a1 l m) := by
  unfold ring_Wipe.f wipeS
  rw [chk 4096 (by omega)]
  simp only [Option.bind_some]
  by_cases c : (ckS a0 a1 l).1 = 0
  · have hv := ckS_zero c
    have h5 := hv.2.2.2.2.1
    have h2 := hv.2.1
    rw [if_pos c, if_pos c, if_pos (by omega), if_pos hm, if_pos hw, if_pos hwm]
  · rw [if_neg c, if_neg c]
end Go.Proofs.Ytoekmdcldfmmcaa.Pure
end
section
namespace Go.Proofs.Ytoekmdcldfmmcaa.Pure
open Go.RowKit Go.Proofs.Ytoekmdcldfmmcaa.F Go.Proofs.YtoekmdcldfmmcaaW.PrintWords Go.Proofs.YtoekmdcldfmmcaaW.PrintLast
set_option linter.unusedVariables false
set_option linter.unusedSimpArgs false
theorem take_succ' {α : Type} {l : List α} {i : Nat} (h : i < l.length) : l.take (i + 1) = l.take i ++ [l[i]] := by simp
end Go.Proofs.Ytoekmdcldfmmcaa.Pure
end
section
namespace Go.Proofs.Ytoekmdcldfmmcaa.Pure
open Go.RowKit Go.Proofs.Ytoekmdcldfmmcaa.F Go.Proofs.YtoekmdcldfmmcaaW.PrintWords Go.Proofs.YtoekmdcldfmmcaaW.PrintLast
set_option linter.unusedVariables false
set_option linter.unusedSimpArgs false
theorem filter_step {l : List S35} {p : S35 → Bool} {i : Nat} (h : i < l.length) : (l.take (i + 1)).filter p = (l.take i).filter p ++ (if p (rd_T35 l (i : Int)) then [rd_T35 l (i : Int)] else []) := by
  rw [take_succ' h, rdg h, List.filter_append]
  congr 1
  by_cases hp : p l[i] <;> simp [hp]
end Go.Proofs.Ytoekmdcldfmmcaa.Pure
end
section
namespace Go.Proofs.Ytoekmdcldfmmcaa.Pure
open Go.RowKit Go.Proofs.Ytoekmdcldfmmcaa.F Go.Proofs.YtoekmdcldfmmcaaW.PrintWords Go.Proofs.YtoekmdcldfmmcaaW.PrintLast
set_option linter.unusedVariables false
set_option linter.unusedSimpArgs false
theorem filter_le {l : List S35} {p : S35 → Bool} {i : Nat} (h : l.length ≤ 64) : ((l.take i).filter p).length ≤ 64 := by
  have h1 := List.length_filter_le p (l.take i)
  have h2 : (l.take i).length ≤ l.length := by rw [List.length_take]; omega
  omega
end Go.Proofs.Ytoekmdcldfmmcaa.Pure
end

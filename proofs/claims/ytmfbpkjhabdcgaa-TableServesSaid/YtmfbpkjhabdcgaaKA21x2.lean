/- Part 2 of A21: what the functions reckon, step by step, and plain laws. No condition. -/
import Derived.Test.YtmfbpkjhabdcgaaKA21x1
section
/- Contract of slices.DeleteFunc at []api.Call over a row of the call's own: the walk. -/
namespace Go.Proofs.Ytmfbpkjhabdcgaa.F
open Go.RowKit Go.Proofs.YtmfbpkjhabdcgaaW.PrintWords Go.Proofs.YtmfbpkjhabdcgaaW.PrintLast Go.Proofs.YtmfbpkjhabdcgaaW.PrintMore
set_option linter.unusedVariables false
set_option linter.unusedSimpArgs false

theorem grown_below {w W W2 : World} {row : Option Nat} (h : w.grownBy W row) (hb : Below W.heap.size W W2) : w.grownBy W2 row := h.trans (grown_of_below hb row)
theorem idxOf_spec (p : S29 → Bool) (l : List S29) : (idxOf p l = -1 ∧ ∀ x ∈ l, p x = false) ∨ ∃ k : Nat, k < l.length ∧ idxOf p l = k ∧ p (rd_T29 l k) = true ∧ ∀ j : Nat, j < k → p (rd_T29 l j) = false := by
  unfold idxOf
  by_cases h : l.findIdx p < l.length
  · rw [if_pos h]
    refine .inr ⟨l.findIdx p, h, rfl, ?_, fun j hj => ?_⟩
    · simpa [rd_T29, List.getD_eq_getElem?_getD, List.getElem?_eq_getElem h] using List.findIdx_getElem (w := h)
    · have := List.not_of_lt_findIdx hj
      simpa [rd_T29, List.getD_eq_getElem?_getD, List.getElem?_eq_getElem (show j < l.length by omega)] using this
  · rw [if_neg h]
    refine .inl ⟨rfl, fun x hx => ?_⟩
    have e : l.findIdx p = l.length := by have := List.findIdx_le_length (xs := l) (p := p); omega
    exact List.findIdx_eq_length.1 e x hx

theorem box_new_ne {W : World} {base g0 n c gb : Nat} {xs : List S29} (h : Kd.R k29 29 W base (fun _ => True) (.slice (some ⟨g0, 0, none⟩) n c) xs) (hg : gb = W.heap.size) : some gb ≠ some g0 := by
  rw [hg]
  intro e1
  injection e1 with e1
  obtain ⟨_, ho⟩ := Kd.R_own h
  have := own_lt ho g0 rfl
  omega
theorem grown_box {w W W2 : World} {g0 gb : Nat} (h : w.grownBy W (some g0)) (hge : w.heap.size ≤ gb) (hg : W.grownBy W2 (some gb)) : w.grownBy W2 (some g0) :=
  ⟨hg.os.trans h.os, hg.tape.trans h.tape, hg.output.trans h.output, Nat.le_trans h.size hg.size, fun i hi hne => (hg.block i (Nat.lt_of_lt_of_le hi h.size) (fun e => by injection e with e; omega)).trans (h.block i hi hne)⟩
theorem R_box {W W2 : World} {base g0 n c gb : Nat} {xs : List S29} (h : Kd.R k29 29 W base (fun _ => True) (.slice (some ⟨g0, 0, none⟩) n c) xs) (hne : some gb ≠ some g0) (hg : W.grownBy W2 (some gb)) : Kd.R k29 29 W2 base (fun _ => True) (.slice (some ⟨g0, 0, none⟩) n c) xs := by
  have h2 : Kd.R k29 29 W base (fun k => k = g0) (.slice (some ⟨g0, 0, none⟩) n c) xs := by
    obtain ⟨_, inner, ho, hr⟩ := h
    exact ⟨fun k hk => by simpa [Value.ownBlock] using hk.symm, inner, ho, hr.imp_ fun x c hx => k29_openM hx ▸ k29_mkM _ _ _ _⟩
  exact Kd.R_mono (Kd.R_grown h2 hg (fun k hk => by rw [hk]; exact fun e => hne e.symm)) (fun _ _ => trivial)
theorem below_grown {w W : World} {base g0 : Nat} (hb : base ≤ w.heap.size) (hg0 : base ≤ g0) (h : w.grownBy W (some g0)) : Below base w W :=
  ⟨h.os, h.tape, h.output, h.size, fun i hi => h.block i (by omega) (fun e => by injection e with e; omega)⟩
theorem seg_cells {W : World} {g i : Nat} {z0 z1 z2 z3 : Value} (r0 : W.cell? ⟨g, i * 4, none⟩ = some z0) (r1 : W.cell? ⟨g, i * 4 + 1, none⟩ = some z1) (r2 : W.cell? ⟨g, i * 4 + 2, none⟩ = some z2) (r3 : W.cell? ⟨g, i * 4 + 3, none⟩ = some z3) :
    ∀ j u, [z0, z1, z2, z3][j]? = some u → W.cell? ⟨g, (i : Int).toNat * k29.sz + j, none⟩ = some u := by
  intro j u h
  show W.cell? ⟨g, (i : Int).toNat * 4 + j, none⟩ = some u
  rw [Int.toNat_natCast]
  match j, h with
  | 0, h => rw [← h]; exact r0
  | 1, h => rw [← h]; exact r1
  | 2, h => rw [← h]; exact r2
  | 3, h => rw [← h]; exact r3
  | j + 4, h => simp at h
theorem row_cells {W : World} {base g0 n c : Nat} {xs : List S29} (h : Kd.R k29 29 W base (fun _ => True) (.slice (some ⟨g0, 0, none⟩) n c) xs) (i : Nat) (hi : i < xs.length) :
    ∃ z0 z1 z2 z3 : Int, W.cell? ⟨g0, i * 4, none⟩ = some (.int .i64 z0) ∧ W.cell? ⟨g0, i * 4 + 1, none⟩ = some (.int .i64 z1) ∧ W.cell? ⟨g0, i * 4 + 2, none⟩ = some (.int .i64 z2) ∧ W.cell? ⟨g0, i * 4 + 3, none⟩ = some (.int .i64 z3) := by
  obtain ⟨ad, hA, q0, q1, q2, q3⟩ := at_T29 (Kd.R_reads' h).2.2 i (by omega) (by omega)
  injection hA with hA
  subst hA
  simp only [Int.toNat_natCast, add_plain] at q0 q1 q2 q3
  exact ⟨_, _, _, _, q0, q1, q2, q3⟩

set_option maxHeartbeats 4000000 in
set_option maxRecDepth 100000 in
theorem deleteFunc_calls (g : Nat) (lb : Array Value) (eg : ∀ args w, (callFunc g args).run Try.prog w = .ok (.enter g args) w) (p : S29 → Bool) (v : Value) (l0 : List S29) (w : World) (base : Nat) (hbs : base ≤ w.heap.size)
    (ho : Kd.R k29 29 w base (fun _ => True) v l0) (hp : PredG g lb p w v.ownBlock) :
    Calls Try.prog 158 #[v, .func (.func g) #[] lb] w fun e w' => ∃ v' : Value, e = .returned v' ∧ Kd.R k29 29 w' base (fun _ => True) v' (l0.filter (fun x => !p x)) ∧ w.grownBy w' v.ownBlock := by
  obtain ⟨A, c, rfl, hlc, hC⟩ := Kd.R_reads ho
  have hIF := indexFunc_calls g lb eg p A c l0 w (Value.slice A l0.length c).ownBlock hC hlc hp
  rcases idxOf_spec p l0 with ⟨he, hall⟩ | ⟨k0, hk0, he, hhit, hmiss⟩
  · rw [he] at hIF
    have hf : l0.filter (fun x => !p x) = l0 := List.filter_eq_self.2 fun x hx => by rw [hall x hx]; rfl
    rw [hf]
    have HO := Aside0.mk ho
    have HI := Aside0.mk hIF
    clear ho hp hC hlc he hall hf hIF
    go_enter Try.func158, Try.ntmps158
    go_wp2_with (go_at_call 196; (refine HI.out.mono ?_); rintro e w1 ⟨rfl, hb1⟩)
    go_ret
    exact ⟨_, rfl, Kd.R_below HO.out hb1, grown_of_below hb1 _⟩
  · rw [he] at hIF
    obtain ⟨g0, rfl⟩ : ∃ g0, A = some ⟨g0, 0, none⟩ := by
      obtain ⟨_, inner, ⟨hl, hown⟩, hr⟩ := ho
      rcases hown with ⟨hv, _⟩ | ⟨g', cap', cur, hv, _⟩
      · injection hv with ha hn _
        omega
      · injection hv with ha _ _
        exact ⟨g', ha⟩
    have hbig := (C_len hC).2
    have hne1 : ((k0 : Int) == -1) = false := beq_eq_false_iff_ne.2 (by omega)
    have HO := Aside0.mk ho
    have HI := Aside0.mk hIF
    have HP := Aside0.mk hp
    have HS := DelInv.start (q := fun x => !p x) hk0 (fun j hj => by show (!p _) = true; rw [hmiss j hj]; rfl) (by show (!p _) = false; rw [hhit]; rfl)
    have HV := Aside0.mk HS
    have hnl : ¬ l0.length ≤ k0 := by omega
    clear ho hp hC hIF HS he hhit hmiss
    go_enter Try.func158, Try.ntmps158
    go_wp2_with (go_at_call 196; (refine HI.out.mono ?_); rintro e w1 ⟨rfl, hb1⟩)
    go_loopg [5, 6, 7] l0.length (fun gg s5 s6 _ wr => ∃ (i j : Nat) (cur : List S29), s5 = .int .i64 i ∧ s6 = .int .i64 j ∧ l0.length - j ≤ gg ∧ i < l0.length ∧ j ≤ l0.length ∧ Aside0 (DelInv (fun x => !p x) l0 i j cur) ∧ Aside0 (Kd.R k29 29 wr base (fun _ => True) (.slice (some ⟨g0, 0, none⟩) l0.length c) cur) ∧ Aside0 (w.grownBy wr (some g0)))
    case atStart => exact ⟨k0, k0 + 1, l0, rfl, by go_num, by omega, hk0, by omega, HV, ⟨Kd.R_below HO.out hb1⟩, ⟨grown_of_below hb1 _⟩⟩
    case round =>
      obtain ⟨i, j, cur, rfl, rfl, hgg, hil, hjl, HD, HR, HG⟩ := hrel
      by_cases hlt : j < l0.length
      · have hltz : (j : Int) < (l0.length : Int) := by omega
        have hcl : cur.length = l0.length := HD.out.len
        have hij : i < j := HD.out.lt
        obtain ⟨ad, hA, q0, q1, q2, q3⟩ := at_T29 (Kd.R_reads' HR.out).2.2 j (by omega) (by omega)
        injection hA with hA
        subst hA
        simp only [Int.toNat_natCast, add_plain] at q0 q1 q2 q3
        rw [HD.out.at_] at q0 q1 q2 q3
        have hcall := HP.out
        obtain ⟨y0, hy0⟩ : ∃ y, y = (rd_T29 l0 j).f0 := ⟨_, rfl⟩
        obtain ⟨y1, hy1⟩ : ∃ y, y = (rd_T29 l0 j).f1 := ⟨_, rfl⟩
        obtain ⟨y2, hy2⟩ : ∃ y, y = (rd_T29 l0 j).f2 := ⟨_, rfl⟩
        obtain ⟨y3, hy3⟩ : ∃ y, y = (rd_T29 l0 j).f3 := ⟨_, rfl⟩
        have HY : Aside0 (rd_T29 l0 j = ⟨y0, y1, y2, y3⟩) := ⟨by rw [hy0, hy1, hy2, hy3]⟩
        rw [← hy0] at q0
        rw [← hy1] at q1
        rw [← hy2] at q2
        rw [← hy3] at q3
        clear hy0 hy1 hy2 hy3 hcall hcl
        obtain ⟨b, hq⟩ : ∃ b, p ⟨y0, y1, y2, y3⟩ = b := ⟨_, rfl⟩
        have HQ := Aside0.mk hq
        clear hq
        cases b with
        | true =>
          go_wp2_with (first
            | ((with_reducible refine gate_dst (N := 7) rfl ?_); refine box_event ?hg (N := 7) ?hd (cs := #[.int .i64 0, .int .i64 0, .int .i64 0, .int .i64 0]) (t := 29) ?hr ?_; (case hd => rfl); (case hg => rfl); (case hr => first | (go_simp; done) | (go_simp; rfl)); intro gb hgb w3 hbox hb3; have HG3 := Aside0.mk (grown_below HG.out hb3); have HR3 := Aside0.mk (Kd.R_below HR.out hb3); have BK := Aside0.mk hbox; have NE := Aside0.mk (box_new_ne HR.out hgb); have GE := Aside0.mk (show w.heap.size ≤ gb by (rw [hgb]; exact HG.out.size)); clear hb3 hbox hgb)
            | ((with_reducible refine gate_store (t := 29) (p := 7) (v := .tmp 25) rfl ?_); refine box_store rfl rfl 29 (.tmp 7) (.tmp 25) rfl [.int .i64 y0, .int .i64 y1, .int .i64 y2, .int .i64 y3] _ rfl rfl rfl (by rfl) (by simp [Value.oneCell']) BK.out rfl ?_; intro w4 hbk hg4 hsz4; have HG4 := Aside0.mk (grown_box HG3.out GE.out hg4); have HR4 := Aside0.mk (R_box HR3.out NE.out hg4); have BK4 := Aside0.mk hbk; have e0 := (blk_cell hbk 0).trans rfl; have e1 := (blk_cell hbk 1).trans rfl; have e2 := (blk_cell hbk 2).trans rfl; have e3 := (blk_cell hbk 3).trans rfl; clear hbk hg4 hsz4 BK)
            | (go_at_fn g; refine (HP.out _ y0 y1 y2 y3 HG4.out).mono ?_; rw [HQ.out]; rintro e w5 ⟨rfl, hb5⟩; have BK5 := Aside0.mk (blk_below BK4.out hb5); have f0 := (blk_cell BK5.out 0).trans rfl; have f1 := (blk_cell BK5.out 1).trans rfl; have f2 := (blk_cell BK5.out 2).trans rfl; have f3 := (blk_cell BK5.out 3).trans rfl; have HG5 := Aside0.mk (grown_below HG4.out hb5); have HR5 := Aside0.mk (Kd.R_below HR4.out hb5); clear hb5 e0 e1 e2 e3))
          go_roundg (l0.length - (j + 1))
          case measure => omega
          case rel => exact ⟨i, j + 1, cur, rfl, by go_num, Nat.le_refl _, hil, by omega, ⟨HD.out.skip hlt (by rw [HY.out, HQ.out]; rfl)⟩, HR5, HG5⟩
        | false =>
          go_wp2_with (first
            | ((with_reducible refine gate_dst (N := 7) rfl ?_); refine box_event ?hg (N := 7) ?hd (cs := #[.int .i64 0, .int .i64 0, .int .i64 0, .int .i64 0]) (t := 29) ?hr ?_; (case hd => rfl); (case hg => rfl); (case hr => first | (go_simp; done) | (go_simp; rfl)); intro gb hgb w3 hbox hb3; have HG3 := Aside0.mk (grown_below HG.out hb3); have HR3 := Aside0.mk (Kd.R_below HR.out hb3); have BK := Aside0.mk hbox; have NE := Aside0.mk (box_new_ne HR.out hgb); have GE := Aside0.mk (show w.heap.size ≤ gb by (rw [hgb]; exact HG.out.size)); clear hb3 hbox hgb)
            | ((with_reducible refine gate_store (t := 29) (p := 7) (v := .tmp 25) rfl ?_); refine box_store rfl rfl 29 (.tmp 7) (.tmp 25) rfl [.int .i64 y0, .int .i64 y1, .int .i64 y2, .int .i64 y3] _ rfl rfl rfl (by rfl) (by simp [Value.oneCell']) BK.out rfl ?_; intro w4 hbk hg4 hsz4; have HG4 := Aside0.mk (grown_box HG3.out GE.out hg4); have HR4 := Aside0.mk (R_box HR3.out NE.out hg4); have BK4 := Aside0.mk hbk; have e0 := (blk_cell hbk 0).trans rfl; have e1 := (blk_cell hbk 1).trans rfl; have e2 := (blk_cell hbk 2).trans rfl; have e3 := (blk_cell hbk 3).trans rfl; clear hbk hg4 hsz4 BK)
            | (go_at_fn g; refine (HP.out _ y0 y1 y2 y3 HG4.out).mono ?_; rw [HQ.out]; rintro e w5 ⟨rfl, hb5⟩; have BK5 := Aside0.mk (blk_below BK4.out hb5); have f0 := (blk_cell BK5.out 0).trans rfl; have f1 := (blk_cell BK5.out 1).trans rfl; have f2 := (blk_cell BK5.out 2).trans rfl; have f3 := (blk_cell BK5.out 3).trans rfl; have HG5 := Aside0.mk (grown_below HG4.out hb5); have HR5 := Aside0.mk (Kd.R_below HR4.out hb5); clear hb5 e0 e1 e2 e3)
            | ((with_reducible refine gate_store (t := 29) (p := 33) (v := .tmp 32) rfl ?_); obtain ⟨z0, z1, z2, z3, r0, r1, r2, r3⟩ := row_cells HR5.out i (by have := HD.out.len; omega); (refine Kd.R_store k29 (w0 := w) base rfl rfl 29 (.tmp 33) (.tmp 32) rfl 29 (g := g0) (i : Int) 0 cur ⟨y0, y1, y2, y3⟩ _ [.int .i64 y0, .int .i64 y1, .int .i64 y2, .int .i64 y3] [.int .i64 z0, .int .i64 z1, .int .i64 z2, .int .i64 z3] (fun _ => True) (fun _ => False) rfl ?hoff rfl rfl (by rfl) ?h1 HR5.out ?hi0 ?hin rfl ?hcc (Nat.le_refl 4) (k29_mkM _ _ _ _) (fun _ h => h.elim) (below_grown hbs (Kd.R_base HR5.out g0 rfl) HG5.out) ?_); (case hoff => show i * 4 = (i : Int).toNat * 4 + 0; simp); (case h1 => simp [Value.oneCell']); (case hi0 => omega); (case hin => omega); (case hcc => exact seg_cells r0 r1 r2 r3); intro w6 ho6 hb6 hg6; have HR6 := Aside0.mk ho6; have HG6 := Aside0.mk (HG5.out.trans hg6); clear ho6 hb6 hg6))
          go_roundg (l0.length - (j + 1))
          case measure => omega
          case rel => exact ⟨i + 1, j + 1, cur.set i (rd_T29 l0 j), by go_num, by go_num, Nat.le_refl _, by omega, by omega, ⟨HD.out.keep hlt (by rw [HY.out, HQ.out]; rfl)⟩, ⟨by rw [HY.out]; exact HR6.out⟩, HG6⟩
      · have hje : j = l0.length := by omega
        subst hje
        have hltz : ¬ (l0.length : Int) < (l0.length : Int) := by omega
        obtain ⟨W2, hcl, hR2, hG2⟩ := clear_row HR.out hil
        have H2 := Aside0.mk hR2
        have H3 := Aside0.mk hG2
        clear hR2 hG2
        go_wp2
        go_ret
        exact ⟨_, rfl, by rw [← HD.out.ends]; exact H2.out, HG.out.trans H3.out⟩
end Go.Proofs.Ytmfbpkjhabdcgaa.F
end
section
/- Contracts of the closures of package table, of table.filter, table.clone and table.without. -/
namespace Go.Proofs.Ytmfbpkjhabdcgaa.F
open Go.RowKit Go.Proofs.YtmfbpkjhabdcgaaW.PrintWords Go.Proofs.YtmfbpkjhabdcgaaW.PrintLast Go.Proofs.YtmfbpkjhabdcgaaW.PrintMore
set_option linter.unusedVariables false
set_option linter.unusedSimpArgs false

/-- A variable in memory of one cell, which stands while the world grows. -/
theorem cell_grown {w W : World} {row : Option Nat} {g t : Nat} {v : Value} (hb : w.heap[g]? = some (.cells #[v] t (0, 0))) (hne : some g ≠ row) (hW : w.grownBy W row) : W.heap[g]? = some (.cells #[v] t (0, 0)) :=
  (hW.block g (blk_lt hb) hne).trans hb

set_option maxHeartbeats 1000000 in
set_option maxRecDepth 100000 in
theorem of1_pred (w : World) (row : Option Nat) (gc : Nat) (car : Int) (hb : w.heap[gc]? = some (.cells #[.int .i64 car] 3 (0, 0))) (hne : some gc ≠ row) :
    PredG 138 #[.pointer (some ⟨gc, 0, none⟩)] (fun x => x.f2 == car) w row := by
  intro W x0 x1 x2 x3 hW
  have hB := cell_grown hb hne hW
  have HC := Aside0.mk hB
  clear hb hne hW hB
  show Calls Try.prog 138 #[.agg #[.int .i64 x0, .int .i64 x1, .int .i64 x2, .int .i64 x3], .pointer (some ⟨gc, 0, none⟩)] W _
  go_enter Try.func138, Try.ntmps138
  go_wp2_with ((with_reducible refine gate_dst (N := 2) rfl ?_); refine box_event ?hg (N := 2) ?hd (cs := #[.int .i64 x0, .int .i64 x1, .int .i64 x2, .int .i64 x3]) (t := 29) ?hr ?_; (case hd => rfl); (case hg => rfl); (case hr => first | (go_simp; done) | (go_simp; rfl)); intro gb hgb w3 hbox hb3; have HB3 := Aside0.mk hb3; have HC3 := blk_below HC.out hb3; have c0 := (blk_cell HC3 0).trans rfl; have c1 := (blk_cell hbox 2).trans rfl; clear hb3 hgb hbox HC3)
  go_ret
  exact ⟨rfl, HB3.out⟩

set_option maxHeartbeats 1000000 in
set_option maxRecDepth 100000 in
theorem thall_calls (x0 x1 x2 x3 : Int) (w : World) : Calls Try.prog 132 #[.agg #[.int .i64 x0, .int .i64 x1, .int .i64 x2, .int .i64 x3]] w fun e w' => e = .returned (.bool (x0 != 3)) ∧ Below w.heap.size w w' := by
  go_enter Try.func132, Try.ntmps132
  go_wp2_with ((with_reducible refine gate_dst (N := 1) rfl ?_); refine box_event ?hg (N := 1) ?hd (cs := #[.int .i64 x0, .int .i64 x1, .int .i64 x2, .int .i64 x3]) (t := 29) ?hr ?_; (case hd => rfl); (case hg => rfl); (case hr => first | (go_simp; done) | (go_simp; rfl)); intro gb hgb w3 hbox hb3; have HB3 := Aside0.mk hb3; have b0 := (blk_cell hbox 0).trans rfl; have b1 := (blk_cell hbox 1).trans rfl; have b2 := (blk_cell hbox 2).trans rfl; have b3 := (blk_cell hbox 3).trans rfl; have HX := Aside0.mk hbox; clear hb3 hgb hbox)
  go_ret
  exact ⟨rfl, HB3.out⟩

set_option maxHeartbeats 1000000 in
set_option maxRecDepth 100000 in
theorem wipe1_pred (w : World) (row : Option Nat) : PredG 137 #[] (fun x => !(x.f0 != 3)) w row := by
  intro W x0 x1 x2 x3 hW
  clear hW
  show Calls Try.prog 137 #[.agg #[.int .i64 x0, .int .i64 x1, .int .i64 x2, .int .i64 x3]] W _
  go_enter Try.func137, Try.ntmps137
  go_wp2_with (first | ((with_reducible refine gate_dst (N := 1) rfl ?_); refine box_event ?hg (N := 1) ?hd (cs := #[.int .i64 x0, .int .i64 x1, .int .i64 x2, .int .i64 x3]) (t := 29) ?hr ?_; (case hd => rfl); (case hg => rfl); (case hr => first | (go_simp; done) | (go_simp; rfl)); intro gb hgb w3 hbox hb3; have HB3 := Aside0.mk hb3; have b0 := (blk_cell hbox 0).trans rfl; have b1 := (blk_cell hbox 1).trans rfl; have b2 := (blk_cell hbox 2).trans rfl; have b3 := (blk_cell hbox 3).trans rfl; have HX := Aside0.mk hbox; clear hb3 hgb hbox) | (go_at_call 132; refine (thall_calls _ _ _ _ _).mono ?_; rintro e w5 ⟨rfl, hb5⟩; have HB5 := Aside0.mk (below_then HB3.out HB3.out.size hb5); clear hb5))
  go_ret
  exact ⟨rfl, HB5.out⟩

set_option maxHeartbeats 1000000 in
set_option maxRecDepth 100000 in
theorem serve1_pred (w : World) (row : Option Nat) (gf gc : Nat) (floor car : Int) (hbf : w.heap[gf]? = some (.cells #[.int .i64 floor] 3 (0, 0))) (hnf : some gf ≠ row) (hb : w.heap[gc]? = some (.cells #[.int .i64 car] 3 (0, 0))) (hne : some gc ≠ row) :
    PredG 134 #[.pointer (some ⟨gf, 0, none⟩), .pointer (some ⟨gc, 0, none⟩)] (fun x => x.f1 == floor && (x.f0 != 3 || x.f2 == car)) w row := by
  intro W x0 x1 x2 x3 hW
  have HC := Aside0.mk (cell_grown hb hne hW)
  have HF := Aside0.mk (cell_grown hbf hnf hW)
  clear hb hne hW hbf hnf
  show Calls Try.prog 134 #[.agg #[.int .i64 x0, .int .i64 x1, .int .i64 x2, .int .i64 x3], .pointer (some ⟨gf, 0, none⟩), .pointer (some ⟨gc, 0, none⟩)] W _
  cases h1 : (x1 == floor) with
  | false =>
    go_enter Try.func134, Try.ntmps134
    go_wp2_with (first | ((with_reducible refine gate_dst (N := 3) rfl ?_); refine box_event ?hg (N := 3) ?hd (cs := #[.int .i64 x0, .int .i64 x1, .int .i64 x2, .int .i64 x3]) (t := 29) ?hr ?_; (case hd => rfl); (case hg => rfl); (case hr => first | (go_simp; done) | (go_simp; rfl)); intro gb hgb w3 hbox hb3; have HB3 := Aside0.mk hb3; have b0 := (blk_cell hbox 0).trans rfl; have b1 := (blk_cell hbox 1).trans rfl; have b2 := (blk_cell hbox 2).trans rfl; have b3 := (blk_cell hbox 3).trans rfl; have HX := Aside0.mk hbox; have c0 := (blk_cell (blk_below HF.out hb3) 0).trans rfl; clear hb3 hgb hbox))
    go_ret
    refine ⟨?_, HB3.out⟩
    show Ending.returned _ = Ending.returned (.bool (x1 == floor && (x0 != 3 || x2 == car)))
    rw [h1]; rfl
  | true =>
    cases h2 : (x0 != 3) with
    | true =>
      go_enter Try.func134, Try.ntmps134
      go_wp2_with (first | ((with_reducible refine gate_dst (N := 3) rfl ?_); refine box_event ?hg (N := 3) ?hd (cs := #[.int .i64 x0, .int .i64 x1, .int .i64 x2, .int .i64 x3]) (t := 29) ?hr ?_; (case hd => rfl); (case hg => rfl); (case hr => first | (go_simp; done) | (go_simp; rfl)); intro gb hgb w3 hbox hb3; have HB3 := Aside0.mk hb3; have b0 := (blk_cell hbox 0).trans rfl; have b1 := (blk_cell hbox 1).trans rfl; have b2 := (blk_cell hbox 2).trans rfl; have b3 := (blk_cell hbox 3).trans rfl; have HX := Aside0.mk hbox; have c0 := (blk_cell (blk_below HF.out hb3) 0).trans rfl; clear hb3 hgb hbox) | (go_at_call 132; refine (thall_calls _ _ _ _ _).mono ?_; rw [h2]; rintro e w5 ⟨rfl, hb5⟩; have HB5 := Aside0.mk (below_then HB3.out HB3.out.size hb5); clear hb5))
      go_ret
      refine ⟨?_, HB5.out⟩
      show Ending.returned _ = Ending.returned (.bool (x1 == floor && (x0 != 3 || x2 == car)))
      rw [h1, h2]; rfl
    | false =>
      go_enter Try.func134, Try.ntmps134
      go_wp2_with (first | ((with_reducible refine gate_dst (N := 3) rfl ?_); refine box_event ?hg (N := 3) ?hd (cs := #[.int .i64 x0, .int .i64 x1, .int .i64 x2, .int .i64 x3]) (t := 29) ?hr ?_; (case hd => rfl); (case hg => rfl); (case hr => first | (go_simp; done) | (go_simp; rfl)); intro gb hgb w3 hbox hb3; have HB3 := Aside0.mk hb3; have b0 := (blk_cell hbox 0).trans rfl; have b1 := (blk_cell hbox 1).trans rfl; have b2 := (blk_cell hbox 2).trans rfl; have b3 := (blk_cell hbox 3).trans rfl; have HX := Aside0.mk hbox; have c0 := (blk_cell (blk_below HF.out hb3) 0).trans rfl; clear hb3 hgb hbox) | (go_at_call 132; refine (thall_calls _ _ _ _ _).mono ?_; rw [h2]; rintro e w5 ⟨rfl, hb5⟩; have HB5 := Aside0.mk (below_then HB3.out HB3.out.size hb5); have c1 := (blk_cell (blk_below (blk_below HC.out HB3.out) hb5) 0).trans rfl; have d2 := (blk_cell (blk_below HX.out hb5) 2).trans rfl; clear hb5))
      go_ret
      refine ⟨?_, HB5.out⟩
      show Ending.returned _ = Ending.returned (.bool (x1 == floor && (x0 != 3 || x2 == car)))
      rw [h1, h2]; rfl
end Go.Proofs.Ytmfbpkjhabdcgaa.F
end
section
/- Contracts of the rest of package table's closures, of table.filter, table.clone and table.without. -/
namespace Go.Proofs.Ytmfbpkjhabdcgaa.F
open Go.RowKit Go.Proofs.YtmfbpkjhabdcgaaW.PrintWords Go.Proofs.YtmfbpkjhabdcgaaW.PrintLast Go.Proofs.YtmfbpkjhabdcgaaW.PrintMore
set_option linter.unusedVariables false
set_option linter.unusedSimpArgs false

/-- Growth by what is new alone, and then by a new row, is growth by what is new alone. -/
theorem grown_new {w w1 W : World} {row : Option Nat} (h : Below w.heap.size w w1) (k : w1.grownBy W row) (hr : ∀ j, row = some j → w.heap.size ≤ j) : w.grownBy W none :=
  ⟨k.os.trans h.os, k.tape.trans h.tape, k.output.trans h.output, Nat.le_trans h.size k.size, fun i hi _ => (k.block i (Nat.lt_of_lt_of_le hi h.size) (fun e => by have := hr i e.symm; omega)).trans (h.block i hi)⟩

set_option maxHeartbeats 2000000 in
set_option maxRecDepth 100000 in
/-- filter$1: '!is(c)', is in a variable. -/
theorem filter1_pred (g : Nat) (lb : Array Value) (eg : ∀ args w, (callFunc g args).run Try.prog w = .ok (.enter g args) w) (p : S29 → Bool) (w : World) (row : Option Nat) (gf : Nat)
    (hb : w.heap[gf]? = some (.cells #[.func (.func g) #[] lb] 63 (0, 0))) (hne : some gf ≠ row) (hp : PredG g lb p w row) : PredG 193 #[.pointer (some ⟨gf, 0, none⟩)] (fun x => !p x) w row := by
  intro W x0 x1 x2 x3 hW
  have HF := Aside0.mk ((hW.block gf (blk_lt hb) hne).trans hb)
  have HP := Aside0.mk (hp.step hW)
  clear hb hp hne
  cases hq : p ⟨x0, x1, x2, x3⟩ with
  | true =>
    have HQ := Aside0.mk hq
    clear hq
    show Calls Try.prog 193 #[.agg #[.int .i64 x0, .int .i64 x1, .int .i64 x2, .int .i64 x3], .pointer (some ⟨gf, 0, none⟩)] W _
    go_enter Try.func193, Try.ntmps193
    go_wp2_with (first | ((with_reducible refine gate_dst (N := 2) rfl ?_); refine box_event ?hg (N := 2) ?hd (cs := #[.int .i64 x0, .int .i64 x1, .int .i64 x2, .int .i64 x3]) (t := 29) ?hr ?_; (case hd => rfl); (case hg => rfl); (case hr => first | (go_simp; done) | (go_simp; rfl)); intro gb hgb w3 hbox hb3; have HB3 := Aside0.mk hb3; have b0 := (blk_cell hbox 0).trans rfl; have b1 := (blk_cell hbox 1).trans rfl; have b2 := (blk_cell hbox 2).trans rfl; have b3 := (blk_cell hbox 3).trans rfl; have c0 := (blk_cell (blk_below HF.out hb3) 0).trans rfl; clear hb3 hgb hbox) | (go_at_fn g; refine (HP.out w3 x0 x1 x2 x3 (grown_of_below HB3.out row)).mono ?_; rw [HQ.out]; rintro e w5 ⟨rfl, hb5⟩; have HB5 := Aside0.mk (below_then HB3.out HB3.out.size hb5); clear hb5))
    go_ret
    refine ⟨?_, HB5.out⟩
    show Ending.returned _ = Ending.returned (.bool (!p ⟨x0, x1, x2, x3⟩))
    rw [HQ.out]; rfl
  | false =>
    have HQ := Aside0.mk hq
    clear hq
    show Calls Try.prog 193 #[.agg #[.int .i64 x0, .int .i64 x1, .int .i64 x2, .int .i64 x3], .pointer (some ⟨gf, 0, none⟩)] W _
    go_enter Try.func193, Try.ntmps193
    go_wp2_with (first | ((with_reducible refine gate_dst (N := 2) rfl ?_); refine box_event ?hg (N := 2) ?hd (cs := #[.int .i64 x0, .int .i64 x1, .int .i64 x2, .int .i64 x3]) (t := 29) ?hr ?_; (case hd => rfl); (case hg => rfl); (case hr => first | (go_simp; done) | (go_simp; rfl)); intro gb hgb w3 hbox hb3; have HB3 := Aside0.mk hb3; have b0 := (blk_cell hbox 0).trans rfl; have b1 := (blk_cell hbox 1).trans rfl; have b2 := (blk_cell hbox 2).trans rfl; have b3 := (blk_cell hbox 3).trans rfl; have c0 := (blk_cell (blk_below HF.out hb3) 0).trans rfl; clear hb3 hgb hbox) | (go_at_fn g; refine (HP.out w3 x0 x1 x2 x3 (grown_of_below HB3.out row)).mono ?_; rw [HQ.out]; rintro e w5 ⟨rfl, hb5⟩; have HB5 := Aside0.mk (below_then HB3.out HB3.out.size hb5); clear hb5))
    go_ret
    refine ⟨?_, HB5.out⟩
    show Ending.returned _ = Ending.returned (.bool (!p ⟨x0, x1, x2, x3⟩))
    rw [HQ.out]; rfl

set_option maxHeartbeats 2000000 in
set_option maxRecDepth 100000 in
/-- table.filter. -/
theorem filter_calls (g : Nat) (lb : Array Value) (eg : ∀ args w, (callFunc g args).run Try.prog w = .ok (.enter g args) w) (p : S29 → Bool) (a0 : Int) (A : Option Addr) (c : Nat) (l : List S29) (w : World)
    (hC : Kd.C k29 w A l.length l) (hlc : l.length ≤ c) (hl : l.length < 4398046511104) (hp : PredG g lb p w none) :
    Calls Try.prog 130 #[.agg #[.int .i64 a0, .slice A l.length c], .func (.func g) #[] lb] w fun e w' => ∃ v' : Value, e = .returned v' ∧ Kd.R k29 29 w' w.heap.size (fun _ => True) v' (l.filter p) ∧ Below w.heap.size w w' := by
  have hu25 := Try.underlying25
  have HC := Aside0.mk hC
  have HL := Aside0.mk hl
  have HP := Aside0.mk hp
  clear hC hl hp
  go_enter Try.func130, Try.ntmps130
  go_wp2_with (first
    | ((with_reducible refine gate_dst (N := 2) rfl ?_); refine box_event ?hg (N := 2) ?hd (cs := #[.int .i64 a0, .slice A l.length c]) (t := 25) ?hr ?_; (case hd => rfl); (case hg => rfl); (case hr => first | (go_simp; done) | (go_simp; rfl)); intro g1 hg1 w1 hx1 hb1; have HB1 := Aside0.mk hb1; have HX1 := Aside0.mk hx1; clear hb1 hg1 hx1)
    | ((with_reducible refine gate_dst (N := 3) rfl ?_); refine box_event ?hg (N := 3) ?hd (cs := #[.func (.func g) #[] lb]) (t := 63) ?hr ?_; (case hd => rfl); (case hg => rfl); (case hr => first | (go_simp; done) | (go_simp; rfl)); intro g2 hg2 w2 hx2 hb2; have HB2 := Aside0.mk (below_then HB1.out HB1.out.size hb2); have HX2 := Aside0.mk hx2; have HG2 := Aside0.mk (show w.heap.size ≤ g2 by rw [hg2]; exact HB1.out.size); have r0 := (blk_cell (blk_below HX1.out hb2) 0).trans rfl; have r1 := (blk_cell (blk_below HX1.out hb2) 1).trans rfl; clear hb2 hg2 hx2)
    | (go_at_call 157; refine (clone_calls A c l _ (Kd.C_below HC.out HB2.out) hlc HL.out).mono ?_; rintro e w3 ⟨v3, rfl, ho3, hb3⟩; have HO3 := Aside0.mk ho3; have HB3 := Aside0.mk (below_then HB2.out HB2.out.size hb3); have HX3 := Aside0.mk (blk_below HX2.out hb3); have HG3 := Aside0.mk (show g2 < w2.heap.size from blk_lt HX2.out); have HS3 := Aside0.mk hb3.size; have HR3 := Aside0.mk (Kd.R_base HO3.out); clear hb3 ho3)
    | (go_at_call 158; refine (deleteFunc_calls 193 _ (enters_of Try.func193 (by kernel_rfl) rfl) (fun x => !p x) v3 l w3 w2.heap.size HS3.out HO3.out ?hpp).mono ?_; (case hpp => exact filter1_pred g lb eg p w3 _ g2 HX3.out (fun e => by have := HR3.out g2 e.symm; have := HG3.out; omega) (fun W x0 x1 x2 x3 hW => HP.out W x0 x1 x2 x3 (grown_new HB3.out hW (fun j hj => by have := HR3.out j hj; have := HB2.out.size; omega)))); rintro e w4 ⟨v4, rfl, ho4, hg4⟩; have HO4 := Aside0.mk ho4; have HB4 := Aside0.mk (HB3.out.grown hg4 (HB3.out.size) (fun k hk => by have := HR3.out k hk; have := HB2.out.size; omega)); clear ho4 hg4))
  go_ret
  have hff : List.filter (fun x => !!p x) l = l.filter p := by simp
  exact ⟨v4, rfl, by rw [← hff]; exact Kd.R_lower HO4.out HB2.out.size, HB4.out⟩

end Go.Proofs.Ytmfbpkjhabdcgaa.F
end
section
/- table.Put$1 and slices.ContainsFunc. -/
namespace Go.Proofs.Ytmfbpkjhabdcgaa.F
open Go.RowKit Go.Proofs.YtmfbpkjhabdcgaaW.PrintWords Go.Proofs.YtmfbpkjhabdcgaaW.PrintLast Go.Proofs.YtmfbpkjhabdcgaaW.PrintMore
set_option linter.unusedVariables false
set_option linter.unusedSimpArgs false

theorem eqA142 (d : Nat) (w : World) (x0 y0 : Int) (x1 y1 : Int) (x2 y2 : Int) :
    (Op.equalIn (d + 2) 142 (.agg #[.int .i64 x0, .int .i64 x1, .int .i64 x2]) (.agg #[.int .i64 y0, .int .i64 y1, .int .i64 y2])).run Try.prog w = .ok (x0 == y0 && (x1 == y1 && (x2 == y2))) w := by
  refine eqA_of Try.underlying142 (by kernel_rfl) ?_
  refine eqf_cons (by rfl) (by go_simp; rfl) (by go_simp; rfl) (by go_simp) ?_
  refine eqf_cons (by rfl) (by go_simp; rfl) (by go_simp; rfl) (by go_simp) ?_
  exact eqf_last (by rfl) (by go_simp; rfl) (by go_simp; rfl) (by go_simp)
attribute [local go_sem high] eqA142
def sameKey (a b : S29) : Bool := a.f0 == b.f0 && (a.f1 == b.f1 && a.f2 == b.f2)
theorem of_calls (a b c d : Int) (w : World) : Calls Try.prog 143 #[.agg #[.int .i64 a, .int .i64 b, .int .i64 c, .int .i64 d]] w fun e w' => e = .returned (.agg #[.int .i64 a, .int .i64 b, .int .i64 c]) ∧ Below w.heap.size w w' :=
  table_of.calls a b c d a b c w rfl
set_option maxHeartbeats 1000000 in
set_option maxRecDepth 100000 in
theorem put1_pred (w : World) (row : Option Nat) (gc : Nat) (c : S29) (hb : w.heap[gc]? = some (.cells #[.int .i64 c.f0, .int .i64 c.f1, .int .i64 c.f2, .int .i64 c.f3] 29 (0, 0))) (hne : some gc ≠ row) :
    PredG 142 #[.pointer (some ⟨gc, 0, none⟩)] (fun x => sameKey x c) w row := by
  intro W x0 x1 x2 x3 hW
  have HC := Aside0.mk ((hW.block gc (blk_lt hb) hne).trans hb)
  clear hb hne hW
  have hu29 := Try.underlying29
  have hu142 := Try.underlying142
  show Calls Try.prog 142 #[.agg #[.int .i64 x0, .int .i64 x1, .int .i64 x2, .int .i64 x3], .pointer (some ⟨gc, 0, none⟩)] W _
  go_enter Try.func142, Try.ntmps142
  go_wp2_with (first | ((with_reducible refine gate_dst (N := 2) rfl ?_); refine box_event ?hg (N := 2) ?hd (cs := #[.int .i64 x0, .int .i64 x1, .int .i64 x2, .int .i64 x3]) (t := 29) ?hr ?_; (case hd => rfl); (case hg => rfl); (case hr => first | (go_simp; done) | (go_simp; rfl)); intro gb hgb w3 hbox hb3; have HB3 := Aside0.mk hb3; have b0 := (blk_cell hbox 0).trans rfl; have b1 := (blk_cell hbox 1).trans rfl; have b2 := (blk_cell hbox 2).trans rfl; have b3 := (blk_cell hbox 3).trans rfl; have HX := Aside0.mk hbox; have HC3 := Aside0.mk (blk_below HC.out hb3); have c0 := (blk_cell (blk_below HC.out hb3) 0).trans rfl; have c1 := (blk_cell (blk_below HC.out hb3) 1).trans rfl; have c2 := (blk_cell (blk_below HC.out hb3) 2).trans rfl; have c3 := (blk_cell (blk_below HC.out hb3) 3).trans rfl; clear hb3 hgb hbox))
  have hmx : Try.prog.follows .mixedOrders = true := by kernel_rfl
  go_region_with (go_at_call 143; refine (of_calls _ _ _ _ _).mono ?_; rintro e w5 ⟨rfl, hb5⟩; (try (have hc5 := blk_below (w := w3.drew) HC3.out hb5; have hx5 := blk_below (w := w3.drew) HX.out hb5; have d0 := (blk_cell hc5 0).trans rfl; have d1 := (blk_cell hc5 1).trans rfl; have d2 := (blk_cell hc5 2).trans rfl; have d3 := (blk_cell hc5 3).trans rfl; have f0 := (blk_cell hx5 0).trans rfl; have f1 := (blk_cell hx5 1).trans rfl; have f2 := (blk_cell hx5 2).trans rfl; have f3 := (blk_cell hx5 3).trans rfl; have HB5 := Aside0.mk (below_then (HB3.out.drew) HB3.out.drew.size hb5); clear hc5 hx5)); (try (have HB6 := Aside0.mk (below_then HB5.out HB5.out.size hb5))); clear hb5)
  all_goals go_wp2
  all_goals go_ret
  all_goals exact ⟨rfl, by first | exact HB6.out | exact HB5.out⟩

theorem idxOf_any (p : S29 → Bool) (l : List S29) : decide (0 ≤ idxOf p l) = l.any p := by
  unfold idxOf
  split
  · rename_i h
    rw [decide_eq_true (by omega)]
    exact (List.any_eq_true.2 (List.findIdx_lt_length.1 h)).symm
  · rename_i h
    rw [decide_eq_false (by omega)]
    cases hq : l.any p with
    | false => rfl
    | true => exact absurd (List.findIdx_lt_length.2 (List.any_eq_true.1 hq)) h

set_option maxHeartbeats 1000000 in
set_option maxRecDepth 100000 in
theorem containsFunc_calls (g : Nat) (lb : Array Value) (eg : ∀ args w, (callFunc g args).run Try.prog w = .ok (.enter g args) w) (p : S29 → Bool) (A0 : Option Addr) (c0 : Nat) (l0 : List S29) (w : World) (row : Option Nat)
    (hr0 : Kd.C k29 w A0 l0.length l0) (hc0 : l0.length ≤ c0) (hp : PredG g lb p w row) :
    Calls Try.prog 141 #[.slice A0 l0.length c0, .func (.func g) #[] lb] w fun e w' => e = .returned (.bool (l0.any p)) ∧ Below w.heap.size w w' := by
  have HI := Aside0.mk (indexFunc_calls g lb eg p A0 c0 l0 w row hr0 hc0 hp)
  rw [← idxOf_any]
  clear hr0 hp
  go_enter Try.func141, Try.ntmps141
  go_wp2_with (go_at_call 196; refine HI.out.mono ?_; rintro e w1 ⟨rfl, hb1⟩; have HB1 := Aside0.mk hb1; clear hb1)
  go_ret
  exact ⟨rfl, HB1.out⟩
end Go.Proofs.Ytmfbpkjhabdcgaa.F
end
section
/- Contract of table.Check: under way. -/
namespace Go.Proofs.Ytmfbpkjhabdcgaa.F
open Go.RowKit Go.Proofs.YtmfbpkjhabdcgaaW.PrintWords Go.Proofs.YtmfbpkjhabdcgaaW.PrintLast Go.Proofs.YtmfbpkjhabdcgaaW.PrintMore
set_option linter.unusedVariables false
set_option linter.unusedSimpArgs false

theorem call_wf {a b c d : Int} (h : call_Check.f 3 a b c d = some 0) : Wf3 a b c := by
  have hb : 0 ≤ a ∧ a ≤ 3 ∧ 0 ≤ b ∧ b < 64 ∧ 0 ≤ c ∧ c ≤ 8 := by
    unfold call_Check.f call_Check.j0 call_Check.j1 at h
    by_cases h1 : a < 1
    · simp [h1] at h
    · by_cases h2 : a > 3
      · simp [h1, h2] at h
      · simp [h1, h2] at h
        by_cases h3 : b < 0
        · simp [h3] at h
        · by_cases h4 : b ≥ 64
          · simp [h3, h4] at h
          · by_cases h5 : d < 0
            · simp [h3, h4, h5] at h
            · simp [h3, h4, h5] at h
              refine ⟨by omega, by omega, by omega, by omega, ?_⟩
              by_cases h6 : a = 3
              · simp [h6] at h
                by_cases h7 : c < 1
                · simp [h7] at h
                · by_cases h8 : 8 < c
                  · simp [h8] at h
                  · omega
              · simp [h6] at h
                by_cases h7 : c = 0
                · omega
                · simp [h7] at h
  refine ⟨?_, ?_, ?_⟩ <;> simp [Lit.wf, IntKind.min, IntKind.max, IntKind.signed, IntKind.bits] <;> omega

section
variable {ops : Array Oper} {rest : List Oper} {o : Oper} {a : Act} {Q : Exit → Act → World → Prop}
/-- 'seen[key] = true' at the operation. -/
theorem wpList_seen_put (w : World) (hg : o.guard = none) (m x v : Operand) (hop : o.op = Op.mapUpdate 179 m x v) (b : Nat) (L : List (Int × Int × Int)) (hs : Seen w b L) (y0 y1 y2 : Int) (hw : Wf3 y0 y1 y2) (hL : L.length < maxLen)
    (hm : a.eval m = .map (some b)) (hx : a.eval x = keyV y0 y1 y2) (hv : a.eval v = .bool true)
    (hK : ∀ w', Seen w' b ((y0, y1, y2) :: L) → w.grownBy w' (some b) → wpList Try.prog ops Q rest (a.put o.dst undef) w') : wpList Try.prog ops Q (o :: rest) a w := by
  refine wpList_plain hg fun K' hK' => ?_
  obtain ⟨w', hrun, r1, r2⟩ := seen_put hs hw hL
  unfold Oper.wp
  simp only [execOp, hop, hm, hx, hv, Sem.run_bind, hrun, Result.andThen]
  exact hK' _ _ (hK w' r1 r2)
end

theorem seen_lt {w : World} {b : Nat} {L : List (Int × Int × Int)} (h : Seen w b L) : b < w.heap.size := by
  obtain ⟨n, D, h1, h2, h3⟩ := h
  exact h2.lt

theorem Seen.drew {w : World} {b : Nat} {L : List (Int × Int × Int)} (h : Seen w b L) : Seen w.drew b L := by
  obtain ⟨n, D, h1, h2, h3⟩ := h
  exact ⟨n, D, h1, h2.drew, h3⟩

/-- The loop of table.Check: all: the table's calls; what is left of them; the number; the keys seen. -/
def tabRun (all : List S29) : List S29 → Nat → List (Int × Int × Int) → Option (Int × Int)
  | [], _, _ => some (0, 0)
  | x :: r, i, L => (call_Check.f 3 x.f0 x.f1 x.f2 x.f3).bind fun e => if e = 0 then (if i > 0 ∧ x.f3 < (rd_T29 all ((i : Int) - 1)).f3 then some (8, (i : Int)) else if (x.f0, x.f1, x.f2) ∈ L then some (7, (i : Int)) else tabRun all r (i + 1) ((x.f0, x.f1, x.f2) :: L)) else some (e, (i : Int))

def table_Check.f (a0_0 : Int) (l0_1 : List (S29)) : Option (Int × Int) :=
  if a0_0 < 1 then some (2, 0) else if a0_0 > 32 then some (2, 0) else if (l0_1.length : Int) > a0_0 then some (5, 0) else tabRun l0_1 l0_1 0 []

set_option maxHeartbeats 4000000 in
set_option maxRecDepth 100000 in
theorem table_Check.calls (a0_0 : Int) (A0_1 : Option Addr) (c0_1 : Nat) (l0_1 : List (S29)) (r1 : Int) (r2 : Int) (w : World) (hr0_1 : Kd.C k29 w A0_1 l0_1.length l0_1) (hc0_1 : l0_1.length ≤ c0_1) (h : table_Check.f a0_0 l0_1 = some (r1, r2)) :
    Calls Try.prog 128 #[.agg #[.int .i64 a0_0, .slice A0_1 l0_1.length c0_1]] w fun e w' => e = .returned (.tuple #[.int .i64 r1, .int .i64 r2]) ∧ Below w.heap.size w w' := by
  have hu25 := Try.underlying25
  have hu29 := Try.underlying29
  have HC := Aside0.mk hr0_1
  clear hr0_1
  unfold table_Check.f at h
  by_cases c1 : a0_0 < 1
  · rw [if_pos c1] at h
    simp only [Option.some.injEq, Prod.mk.injEq] at h
    obtain ⟨rfl, rfl⟩ := h
    have d1 : decide (a0_0 < 1) = true := decide_eq_true c1
    clear c1
    go_enter Try.func128, Try.ntmps128
    go_wp2_with ((with_reducible refine gate_dst (N := 1) rfl ?_); refine box_event ?hg (N := 1) ?hd (cs := #[.int .i64 a0_0, .slice A0_1 l0_1.length c0_1]) (t := 25) ?hr ?_; (case hd => rfl); (case hg => rfl); (case hr => first | (go_simp; done) | (go_simp; rfl)); intro gt hg_ w1 hx_ hb_; have HB1 := Aside0.mk hb_; have HX1 := Aside0.mk hx_; have HG1 := Aside0.mk (show w.heap.size ≤ gt by rw [hg_]; exact Nat.le_refl _); have r0 := (blk_cell hx_ 0).trans rfl; have r1 := (blk_cell hx_ 1).trans rfl; have rl := blk_lt hx_; clear hg_ hb_ hx_)
    refine bodyPost_ret (results_tmp2 rfl _ _ _) rfl ?_
    exact ⟨rfl, HB1.out⟩
  · rw [if_neg c1] at h
    have d1 : decide (a0_0 < 1) = false := decide_eq_false c1
    clear c1
    by_cases c2 : a0_0 > 32
    · rw [if_pos c2] at h
      simp only [Option.some.injEq, Prod.mk.injEq] at h
      obtain ⟨rfl, rfl⟩ := h
      have d2 : decide (32 < a0_0) = true := decide_eq_true c2
      clear c2
      go_enter Try.func128, Try.ntmps128
      go_wp2_with ((with_reducible refine gate_dst (N := 1) rfl ?_); refine box_event ?hg (N := 1) ?hd (cs := #[.int .i64 a0_0, .slice A0_1 l0_1.length c0_1]) (t := 25) ?hr ?_; (case hd => rfl); (case hg => rfl); (case hr => first | (go_simp; done) | (go_simp; rfl)); intro gt hg_ w1 hx_ hb_; have HB1 := Aside0.mk hb_; have HX1 := Aside0.mk hx_; have HG1 := Aside0.mk (show w.heap.size ≤ gt by rw [hg_]; exact Nat.le_refl _); have r0 := (blk_cell hx_ 0).trans rfl; have r1 := (blk_cell hx_ 1).trans rfl; have rl := blk_lt hx_; clear hg_ hb_ hx_)
      refine bodyPost_ret (results_tmp2 rfl _ _ _) rfl ?_
      exact ⟨rfl, HB1.out⟩
    · rw [if_neg c2] at h
      have d2 : decide (32 < a0_0) = false := decide_eq_false c2
      have hcap : a0_0 ≤ 32 := by omega
      clear c2
      by_cases c3 : (l0_1.length : Int) > a0_0
      · rw [if_pos c3] at h
        simp only [Option.some.injEq, Prod.mk.injEq] at h
        obtain ⟨rfl, rfl⟩ := h
        have d3 : decide (a0_0 < (l0_1.length : Int)) = true := decide_eq_true c3
        clear c3
        go_enter Try.func128, Try.ntmps128
        go_wp2_with ((with_reducible refine gate_dst (N := 1) rfl ?_); refine box_event ?hg (N := 1) ?hd (cs := #[.int .i64 a0_0, .slice A0_1 l0_1.length c0_1]) (t := 25) ?hr ?_; (case hd => rfl); (case hg => rfl); (case hr => first | (go_simp; done) | (go_simp; rfl)); intro gt hg_ w1 hx_ hb_; have HB1 := Aside0.mk hb_; have HX1 := Aside0.mk hx_; have HG1 := Aside0.mk (show w.heap.size ≤ gt by rw [hg_]; exact Nat.le_refl _); have r0 := (blk_cell hx_ 0).trans rfl; have r1 := (blk_cell hx_ 1).trans rfl; have rl := blk_lt hx_; clear hg_ hb_ hx_)
        refine bodyPost_ret (results_tmp2 rfl _ _ _) rfl ?_
        exact ⟨rfl, HB1.out⟩
      · rw [if_neg c3] at h
        have d3 : decide (a0_0 < (l0_1.length : Int)) = false := decide_eq_false c3
        have hlen : l0_1.length ≤ 32 := by omega
        clear c3
        have H' := Aside0.mk h
        have HL := Aside0.mk hlen
        have hmm := @run_makeMap Try.prog
        clear h hlen hcap
        go_enter Try.func128, Try.ntmps128
        go_wp2_with ((with_reducible refine gate_dst (N := 1) rfl ?_); refine box_event ?hg (N := 1) ?hd (cs := #[.int .i64 a0_0, .slice A0_1 l0_1.length c0_1]) (t := 25) ?hr ?_; (case hd => rfl); (case hg => rfl); (case hr => first | (go_simp; done) | (go_simp; rfl)); intro gt hg_ w1 hx_ hb_; have HB1 := Aside0.mk hb_; have HX1 := Aside0.mk hx_; have HG1 := Aside0.mk (show w.heap.size ≤ gt by rw [hg_]; exact Nat.le_refl _); have r0 := (blk_cell hx_ 0).trans rfl; have r1 := (blk_cell hx_ 1).trans rfl; have rl := blk_lt hx_; clear hg_ hb_ hx_)
        have HS0 := Aside0.mk (seen_made w1)
        have HX2 := Aside0.mk (blk_alloc HX1.out (.map #[] 0))
        have HB2 := Aside0.mk (HB1.out.alloc HB1.out.size (.map #[] 0))
        have HM := Aside0.mk (HB1.out.size)
        have HGM := Aside0.mk (show gt ≠ w1.heap.size from Nat.ne_of_lt rl)
        obtain ⟨mb, hmb⟩ : ∃ mb, mb = w1.heap.size := ⟨_, rfl⟩
        rw [← hmb] at HS0 HM HGM ⊢
        generalize w1.alloc (.map #[] 0) = w2 at HS0 HX2 HB2 ⊢
        clear r0 r1 rl HB1 HX1 hmb d1 d2 d3 hmm
        go_loopg [26] l0_1.length (fun gg v26 wr => ∃ (i : Nat) (L : List (Int × Int × Int)), v26 = .int .i64 i ∧ i ≤ l0_1.length ∧ l0_1.length - i ≤ gg ∧ L.length ≤ i ∧ Aside0 (tabRun l0_1 (l0_1.drop i) i L = some (r1, r2)) ∧ Aside0 (Seen wr mb L) ∧ Aside0 (wr.heap[gt]? = some (.cells #[.int .i64 a0_0, .slice A0_1 l0_1.length c0_1] 25 (0, 0))) ∧ Aside0 (Below w.heap.size w wr))
        case atStart => exact ⟨0, [], by go_num, Nat.zero_le _, by omega, Nat.le_refl _, H', HS0, HX2, HB2⟩
        case round =>
          obtain ⟨i, L, rfl, hi, hgg, hLi, HR, HS, HX, HB⟩ := hrel
          have hll := HL.out
          clear H' HS0 HX2 HB2
          by_cases hlt : i < l0_1.length
          · have hltz : (i : Int) < (l0_1.length : Int) := by omega
            obtain ⟨ad, hA, q0, q1, q2, q3⟩ := at_T29 (Kd.C_below HC.out HB.out) i (by omega) hltz
            subst hA
            simp only [Int.toNat_natCast] at q0 q1 q2 q3
            have H := HR.out
            rw [List.drop_eq_getElem_cons hlt, tabRun] at H
            have hel : l0_1[i] = rd_T29 l0_1 (i : Int) := by simp [rd_T29, List.getD_eq_getElem?_getD, List.getElem?_eq_getElem hlt]
            rw [hel] at H
            generalize (rd_T29 l0_1 (i : Int)).f0 = y0 at q0 H
            generalize (rd_T29 l0_1 (i : Int)).f1 = y1 at q1 H
            generalize (rd_T29 l0_1 (i : Int)).f2 = y2 at q2 H
            generalize (rd_T29 l0_1 (i : Int)).f3 = y3 at q3 H
            obtain ⟨e, he, H⟩ := Option.bind_eq_some_iff.mp H
            have HE := Aside0.mk he
            have HH := Aside0.mk H
            clear he H hel HR
            have hltd : decide ((i : Int) < (l0_1.length : Int)) = true := decide_eq_true hltz
            by_cases c0 : e = 0
            · subst c0
              have hw3 : Wf3 y0 y1 y2 := call_wf HE.out
              have H := HH.out
              rw [if_pos rfl] at H
              have HH := Aside0.mk H
              clear H
              go_upto_region 12 with (first | ((with_reducible refine gate_dst (N := 6) rfl ?_); refine box_event ?hg (N := 6) ?hd (cs := #[.int .i64 0, .int .i64 0, .int .i64 0, .int .i64 0]) (t := 29) ?hr ?_; (case hd => rfl); (case hg => rfl); (case hr => first | (go_simp; done) | (go_simp; rfl)); intro g6 hg_ w3 hx_ hb_; have HB3 := Aside0.mk (below_then HB.out HB.out.size hb_); have HK3 := Aside0.mk hx_; have HX3 := Aside0.mk (blk_below HX.out hb_); have HS3 := Aside0.mk (HS.out.kept (grown_of_below hb_ none) (fun e => by cases e)); have HG6 := Aside0.mk (show w.heap.size ≤ g6 by rw [hg_]; exact HB.out.size); have HN6 := Aside0.mk (show gt ≠ g6 by rw [hg_]; exact Nat.ne_of_lt (blk_lt HX.out)); have HM6 := Aside0.mk (show mb ≠ g6 by rw [hg_]; exact Nat.ne_of_lt (seen_lt HS.out)); clear hg_ hb_ hx_) | ((with_reducible refine gate_store (t := 29) (p := 6) (v := .tmp 30) rfl ?_); refine box_store rfl rfl 29 (.tmp 6) (.tmp 30) rfl [.int .i64 y0, .int .i64 y1, .int .i64 y2, .int .i64 y3] _ rfl rfl rfl (by rfl) (by simp [Value.oneCell']) HK3.out rfl ?_; intro w4 hbk hg4 hsz4; have HK4 := Aside0.mk hbk; have HB4 := Aside0.mk (HB3.out.grown hg4 HB3.out.size (fun k hk => by have := HG6.out; have h9 := Option.some.inj hk; omega)); have HX4 := Aside0.mk ((hg4.block gt (blk_lt HX3.out) (fun e => HN6.out (Option.some.inj e))).trans HX3.out); have HS4 := Aside0.mk (HS3.out.kept hg4 (fun e => HM6.out (Option.some.inj e))); have k0 := (blk_cell hbk 0).trans rfl; have k1 := (blk_cell hbk 1).trans rfl; have k2 := (blk_cell hbk 2).trans rfl; have k3 := (blk_cell hbk 3).trans rfl; clear hbk hg4 hsz4) | (go_at_call 139; refine (call_Check.calls 3 _ _ _ _ 0 _ HE.out).mono ?_; rintro e w5 ⟨rfl, hb_⟩; have HB5 := Aside0.mk (below_then HB4.out HB4.out.size hb_); have HK5 := Aside0.mk (blk_below HK4.out hb_); have HX5 := Aside0.mk (blk_below HX4.out hb_); have HS5 := Aside0.mk (HS4.out.kept (grown_of_below hb_ none) (fun e => by cases e)); have ra := (blk_cell HX5.out 0).trans rfl; have rb := (blk_cell HX5.out 1).trans rfl; have j0 := (blk_cell HK5.out 0).trans rfl; have j1 := (blk_cell HK5.out 1).trans rfl; have j2 := (blk_cell HK5.out 2).trans rfl; have j3 := (blk_cell HK5.out 3).trans rfl; clear hb_))
              (try simp only [Act.put, List.setIfInBounds_toArray, List.set_cons_zero, List.set_cons_succ])
              go_cut [38] (fun v38 wc => ∃ b : Bool, v38 = .bool b ∧ Aside0 ((if b = true then some (8, (i : Int)) else if (y0, y1, y2) ∈ L then some (7, (i : Int)) else tabRun l0_1 (l0_1.drop (i + 1)) (i + 1) ((y0, y1, y2) :: L)) = some (r1, r2)) ∧ Aside0 (Seen wc mb L) ∧ Aside0 (wc.heap[gt]? = some (.cells #[.int .i64 a0_0, .slice (some ad) l0_1.length c0_1] 25 (0, 0))) ∧ Aside0 (wc.heap[g6]? = some (.cells #[.int .i64 y0, .int .i64 y1, .int .i64 y2, .int .i64 y3] 29 (0, 0))) ∧ Aside0 (Below w.heap.size w wc))
              case first =>
                have H := HH.out
                by_cases hi0 : 0 < (i : Int)
                · have d0 : decide (0 < i) = true := decide_eq_true (by omega)
                  obtain ⟨jj, hjj⟩ : ∃ jj : Int, (i : Int) - 1 = jj := ⟨_, rfl⟩
                  have hw1 : IntKind.i64.wrap ((i : Int) - 1) = jj := by rw [i64_w, hjj]; unfold wrap64; omega
                  rw [hjj] at H
                  obtain ⟨ad2, hA2, z0, z1, z2, z3⟩ := at_T29 (Kd.C_below HC.out HB5.out) jj (by omega) (by omega)
                  cases hA2
                  generalize (rd_T29 l0_1 jj).f3 = y4 at z3 H
                  have p1 : decide (0 ≤ jj) = true := decide_eq_true (by omega)
                  have p2 : decide (jj < (l0_1.length : Int)) = true := decide_eq_true (by omega)
                  have p3 : 0 ≤ jj := by omega
                  have p4 : jj < (l0_1.length : Int) := by omega
                  replace p3 := eq_true p3
                  replace p4 := eq_true p4
                  have HF := Aside0.mk (show (if decide (y3 < y4) = true then some (8, (i : Int)) else if (y0, y1, y2) ∈ L then some (7, (i : Int)) else tabRun l0_1 (l0_1.drop (i + 1)) (i + 1) ((y0, y1, y2) :: L)) = some (r1, r2) by
                    by_cases hq : y3 < y4
                    · rw [if_pos (decide_eq_true hq)]; rw [if_pos (show i > 0 ∧ y3 < y4 from ⟨by omega, hq⟩)] at H; exact H
                    · rw [if_neg (by simpa using hq)]; rw [if_neg (show ¬ (i > 0 ∧ y3 < y4) from fun h => hq h.2)] at H; exact H)
                  clear H HH hjj hi0
                  have hmx : Try.prog.follows .mixedOrders = true := by kernel_rfl
                  go_region
                  all_goals go_wp2
                  go_meet
                  case rel => exact ⟨_, rfl, HF, ⟨HS5.out.drew⟩, ⟨blk_drew HX5.out⟩, ⟨blk_drew HK5.out⟩, ⟨below_drew1 HB5.out⟩⟩
                · have d0 : decide (0 < i) = false := decide_eq_false (by omega)
                  rw [if_neg (show ¬ (i > 0 ∧ y3 < (rd_T29 l0_1 ((i : Int) - 1)).f3) from fun h => hi0 (by omega))] at H
                  have HF := Aside0.mk (show (if false = true then some (8, (i : Int)) else if (y0, y1, y2) ∈ L then some (7, (i : Int)) else tabRun l0_1 (l0_1.drop (i + 1)) (i + 1) ((y0, y1, y2) :: L)) = some (r1, r2) by
                    rw [if_neg (by decide)]; exact H)
                  clear H HH hi0
                  have hmx : Try.prog.follows .mixedOrders = true := by kernel_rfl
                  go_region
                  all_goals go_wp2
                  go_meet
                  case rel => exact ⟨_, rfl, HF, ⟨HS5.out.drew⟩, ⟨blk_drew HX5.out⟩, ⟨blk_drew HK5.out⟩, ⟨below_drew1 HB5.out⟩⟩
              case rest =>
                obtain ⟨b, rfl, HR, HSc, HXc, HKc, HBc⟩ := hcut
                clear HH HS HX HB HS3 HS4 HS5 HX3 HX4 HX5 HK3 HK4 HK5 HB3 HB4 HB5 k0 k1 k2 k3 j0 j1 j2 j3 ra rb q0 q1 q2 q3
                by_cases hb : b = true
                · subst hb
                  have H := HR.out
                  rw [if_pos rfl] at H
                  simp only [Option.some.injEq, Prod.mk.injEq] at H
                  obtain ⟨rfl, rfl⟩ := H
                  clear HR
                  go_wp2
                  refine bodyPost_ret (results_tmp2 rfl _ _ _) rfl ?_
                  exact ⟨rfl, HBc.out⟩
                · have hb' : b = false := by simpa using hb
                  subst hb'
                  have H := HR.out
                  rw [if_neg (by decide)] at H
                  have k0 := (blk_cell HKc.out 0).trans rfl
                  have k1 := (blk_cell HKc.out 1).trans rfl
                  have k2 := (blk_cell HKc.out 2).trans rfl
                  have k3 := (blk_cell HKc.out 3).trans rfl
                  by_cases hmem : (y0, y1, y2) ∈ L
                  · rw [if_pos hmem] at H
                    have dm : decide ((y0, y1, y2) ∈ L) = true := decide_eq_true hmem
                    simp only [Option.some.injEq, Prod.mk.injEq] at H
                    obtain ⟨rfl, rfl⟩ := H
                    clear HR hb hmem
                    go_wp2_with (go_at_call 143; refine (of_calls _ _ _ _ _).mono ?_; rintro e w6 ⟨rfl, hb6⟩; have HB6 := Aside0.mk (below_then HBc.out HBc.out.size hb6); have hlk := (seen_lookup (HSc.out.kept (grown_of_below hb6 none) (fun e => by cases e)) hw3 (Try.zeroValue4 _)).trans (by rw [dm]); clear hb6)
                    refine bodyPost_ret (results_tmp2 rfl _ _ _) rfl ?_
                    exact ⟨rfl, HB6.out⟩
                  · rw [if_neg hmem] at H
                    have dm : decide ((y0, y1, y2) ∈ L) = false := decide_eq_false hmem
                    have HR2 := Aside0.mk H
                    clear H HR hb hmem
                    have hLm : L.length < maxLen := by unfold maxLen; omega
                    go_wp2_with (first | (go_at_call 143; refine (of_calls _ _ _ _ _).mono ?_; rintro e w6 ⟨rfl, hb6⟩; first | (have HB7 := Aside0.mk (below_then HB6.out HB6.out.size hb6); have HX7 := Aside0.mk (blk_below HX6.out hb6); have HS7 := Aside0.mk (HS6.out.kept (grown_of_below hb6 none) (fun e => by cases e)); clear hb6) | (have HB6 := Aside0.mk (below_then HBc.out HBc.out.size hb6); have HX6 := Aside0.mk (blk_below HXc.out hb6); have HS6 := Aside0.mk (HSc.out.kept (grown_of_below hb6 none) (fun e => by cases e)); have hlk := (seen_lookup HS6.out hw3 (Try.zeroValue4 _)).trans (by rw [dm]); have HK6 := Aside0.mk (blk_below HKc.out hb6); have u0 := (blk_cell HK6.out 0).trans rfl; have u1 := (blk_cell HK6.out 1).trans rfl; have u2 := (blk_cell HK6.out 2).trans rfl; have u3 := (blk_cell HK6.out 3).trans rfl; clear hb6)) | (at_mapUpdate; refine wpList_seen_put _ rfl _ _ _ rfl mb L HS7.out y0 y1 y2 hw3 hLm rfl rfl rfl ?_; intro w8 hs8 hg8; have HS8 := Aside0.mk hs8; have HX8 := Aside0.mk ((hg8.block gt (blk_lt HX7.out) (fun e => HGM.out (Option.some.inj e))).trans HX7.out); have HB8 := Aside0.mk (HB7.out.grown hg8 HB7.out.size (fun k hk => by have := HM.out; have h9 := Option.some.inj hk; omega)); clear hs8 hg8))
                    go_roundg (l0_1.length - (i + 1))
                    · exact ⟨i + 1, (y0, y1, y2) :: L, by go_num, by omega, Nat.le_refl _, by simp; omega, HR2, HS8, HX8, HB8⟩
                    · omega
            · have H := HH.out
              rw [if_neg c0] at H
              simp only [Option.some.injEq, Prod.mk.injEq] at H
              obtain ⟨rfl, rfl⟩ := H
              have d1 : (e != 0) = true := bne_iff_ne.mpr c0
              clear c0
              go_wp2_with (first | ((with_reducible refine gate_dst (N := 6) rfl ?_); refine box_event ?hg (N := 6) ?hd (cs := #[.int .i64 0, .int .i64 0, .int .i64 0, .int .i64 0]) (t := 29) ?hr ?_; (case hd => rfl); (case hg => rfl); (case hr => first | (go_simp; done) | (go_simp; rfl)); intro g6 hg_ w3 hx_ hb_; have HB3 := Aside0.mk (below_then HB.out HB.out.size hb_); have HK3 := Aside0.mk hx_; have HX3 := Aside0.mk (blk_below HX.out hb_); have HS3 := Aside0.mk (HS.out.kept (grown_of_below hb_ none) (fun e => by cases e)); have HG6 := Aside0.mk (show w.heap.size ≤ g6 by rw [hg_]; exact HB.out.size); have HN6 := Aside0.mk (show gt ≠ g6 by rw [hg_]; exact Nat.ne_of_lt (blk_lt HX.out)); clear hg_ hb_ hx_) | ((with_reducible refine gate_store (t := 29) (p := 6) (v := .tmp 30) rfl ?_); refine box_store rfl rfl 29 (.tmp 6) (.tmp 30) rfl [.int .i64 y0, .int .i64 y1, .int .i64 y2, .int .i64 y3] _ rfl rfl rfl (by rfl) (by simp [Value.oneCell']) HK3.out rfl ?_; intro w4 hbk hg4 hsz4; have HK4 := Aside0.mk hbk; have HB4 := Aside0.mk (HB3.out.grown hg4 HB3.out.size (fun k hk => by have := HG6.out; have h9 := Option.some.inj hk; omega)); have HX4 := Aside0.mk ((hg4.block gt (blk_lt HX3.out) (fun e => HN6.out (Option.some.inj e))).trans HX3.out); have k0 := (blk_cell hbk 0).trans rfl; have k1 := (blk_cell hbk 1).trans rfl; have k2 := (blk_cell hbk 2).trans rfl; have k3 := (blk_cell hbk 3).trans rfl; have HG4 := Aside0.mk hg4; clear hbk hg4 hsz4) | (go_at_call 139; refine (call_Check.calls 3 _ _ _ _ e _ HE.out).mono ?_; rintro e w5 ⟨rfl, hb_⟩; have HB5 := Aside0.mk (below_then HB4.out HB4.out.size hb_); have HK5 := Aside0.mk (blk_below HK4.out hb_); have HX5 := Aside0.mk (blk_below HX4.out hb_); have HBB := Aside0.mk hb_; clear hb_))
              refine bodyPost_ret (results_tmp2 rfl _ _ _) rfl ?_
              exact ⟨rfl, HB5.out⟩
          · have hltz : ¬ (i : Int) < (l0_1.length : Int) := by omega
            have hie : i = l0_1.length := by omega
            have H := HR.out
            rw [List.drop_eq_nil_iff.2 (by omega), tabRun] at H
            simp only [Option.some.injEq, Prod.mk.injEq] at H
            obtain ⟨rfl, rfl⟩ := H
            have hltd : decide ((i : Int) < (l0_1.length : Int)) = false := decide_eq_false hltz
            clear hie
            go_wp2
            all_goals refine bodyPost_ret (results_tmp2 rfl _ _ _) rfl ?_
            exact ⟨rfl, HB.out⟩

end Go.Proofs.Ytmfbpkjhabdcgaa.F
end
section
-- Written by fork.py (this session's program over the kit's print.py). Not trusted: Lean checks it.
namespace Go.Proofs.Ytmfbpkjhabdcgaa.F
open Go.RowKit Go.Proofs.YtmfbpkjhabdcgaaW.PrintWords Go.Proofs.YtmfbpkjhabdcgaaW.PrintLast Go.Proofs.YtmfbpkjhabdcgaaW.PrintMore
attribute [local go_sem] max2_int min2_int max_two min_two max_three min_three max_four min_four
set_option linter.unusedVariables false
set_option linter.unusedSimpArgs false

/-! ### table_clone: function 140 -/
def table_clone.f (a0_0 : Int) (l0_1 : List (S29)) : Option (Int × (List (S29))) := (api_Call_157.f l0_1).bind fun t109 => (some (a0_0, t109))
set_option maxHeartbeats 8000000 in
set_option maxRecDepth 100000 in
theorem table_clone.calls (a0_0 : Int) (A0_1 : Option Addr) (c0_1 : Nat) (l0_1 : List (S29)) (r1 : Int) (r2 : List (S29)) (w : World) (hr0_1 : Kd.C k29 w A0_1 l0_1.length l0_1) (hc0_1 : l0_1.length ≤ c0_1) (h : table_clone.f a0_0 l0_1 = some (r1, r2)) :
    Calls Try.prog 140 #[.agg #[.int .i64 a0_0, .slice A0_1 l0_1.length c0_1]] w fun e w' => ∃ v1_ : Value, e = .returned (.agg #[.int .i64 r1, v1_]) ∧ Kd.R k29 29 w' w.heap.size (fun _ => True) v1_ r2 ∧ Below w.heap.size w w' := by
  have hu25 := Try.underlying25
  have HR0_1 := Aside0.mk hr0_1
  have HC0_1 := Aside0.mk hc0_1
  clear hr0_1 hc0_1
  have HB := Aside0.mk (Below.refl w.heap.size w)
  have H : ((api_Call_157.f l0_1).bind fun t109 => (some (a0_0, t109))) = some (r1, r2) := h
  clear h
  replace H := Option.bind_eq_some_iff.mp H
  obtain ⟨t109, A20, H⟩ := H
  replace H : (some (a0_0, t109)) = some (r1, r2) := H
  have A2 := Aside0.mk A20
  clear A20
  simp only [Option.some.injEq, Prod.mk.injEq] at H
  obtain ⟨rfl, rfl⟩ := H
  go_enter Try.func140, Try.ntmps140
  try go_wp2_with (first | ((with_reducible refine gate_dst (N := 1) rfl ?_); refine box_event ?hg (N := 1) ?hd (cs := #[.int .i64 a0_0, .slice A0_1 l0_1.length c0_1]) (t := 25) ?hr ?_; (case hd => rfl); (case hg => rfl); (case hr => first | (go_simp; done) | (go_simp; rfl)); intro gb107 hg w3 hbox hb; have n0_ := Aside0.mk (below_step (by repeat (first | (with_reducible first | exact HB.out | apply below_alloc | apply pw_below_drewN | apply below_drew1) | exact HB.out)) hb); have n1_ := Aside0.mk (hbox); have n2_ := Aside0.mk ((by rw [hg]; exact (below_size (by repeat (first | (with_reducible first | exact HB.out | apply below_alloc | apply pw_below_drewN | apply below_drew1) | exact HB.out))) : w.heap.size ≤ gb107)); have n3_ := Aside0.mk ((by rw [hg]; exact (below_size (by repeat (first | (with_reducible first | exact HB.out | apply below_alloc | apply pw_below_drewN | apply below_drew1) | exact HB.out))) : w.heap.size ≤ gb107)); clear HB; have HB := n0_; have BK107 := n1_; have GW107 := n2_; have GE107 := n3_; clear n0_ n1_ n2_ n3_; clear hb hbox hg) | ((with_reducible refine gate_dst (N := 2) rfl ?_); refine box_event ?hg (N := 2) ?hd (cs := #[.int .i64 0, .slice none 0 0]) (t := 25) ?hr ?_; (case hd => rfl); (case hg => rfl); (case hr => first | (go_simp; done) | (go_simp; rfl)); intro gb108 hg w4 hbox hb; have n0_ := Aside0.mk (blk_below (g := gb107) (o := .cells #[.int .i64 a0_0, .slice A0_1 l0_1.length c0_1] 25 (0, 0)) (by (with_reducible repeat (first | refine blk_drewN ?_ _ | refine blk_drew ?_ | refine blk_alloc ?_ _)); exact BK107.out) hb); have n1_ := Aside0.mk (below_step (by repeat (first | (with_reducible first | exact HB.out | apply below_alloc | apply pw_below_drewN | apply below_drew1 | refine below_set ?_ GE107.out) | exact HB.out)) hb); have n2_ := Aside0.mk (hbox); have n3_ := Aside0.mk ((by rw [hg]; exact (below_size (by repeat (first | (with_reducible first | exact HB.out | apply below_alloc | apply pw_below_drewN | apply below_drew1 | refine below_set ?_ GE107.out) | exact HB.out))) : w.heap.size ≤ gb108)); have n4_ := Aside0.mk ((by rw [hg]; exact (below_size (by repeat (first | (with_reducible first | exact HB.out | apply below_alloc | apply pw_below_drewN | apply below_drew1 | refine below_set ?_ GE107.out) | exact HB.out))) : w.heap.size ≤ gb108)); have n5_ := Aside0.mk ((by rw [hg]; exact Nat.ne_of_lt (blk_lt (g := gb107) (o := .cells #[.int .i64 a0_0, .slice A0_1 l0_1.length c0_1] 25 (0, 0)) (by (with_reducible repeat (first | refine blk_drewN ?_ _ | refine blk_drew ?_ | refine blk_alloc ?_ _)); exact BK107.out)) : gb107 ≠ gb108)); have n6_ := Aside0.mk ((by rw [hg]; exact Nat.ne_of_gt (blk_lt (g := gb107) (o := .cells #[.int .i64 a0_0, .slice A0_1 l0_1.length c0_1] 25 (0, 0)) (by (with_reducible repeat (first | refine blk_drewN ?_ _ | refine blk_drew ?_ | refine blk_alloc ?_ _)); exact BK107.out)) : gb108 ≠ gb107)); clear BK107; clear HB; have BK107 := n0_; have HB := n1_; have BK108 := n2_; have GW108 := n3_; have GE108 := n4_; have NB107_108 := n5_; have NB108_107 := n6_; clear n0_ n1_ n2_ n3_ n4_ n5_ n6_; clear hb hbox hg))
  have n0_ := Aside0.mk (blk_drew BK107.out)
  have n1_ := Aside0.mk (blk_drew BK108.out)
  have n2_ := Aside0.mk (below_drew1 HB.out)
  clear BK107
  clear BK108
  clear HB
  have BK107 := n0_
  have BK108 := n1_
  have HB := n2_
  clear n0_ n1_ n2_
  refine start_ (n := 7) (S := fun w' => w'.cell? ⟨gb107, 0, none⟩ = some (.int .i64 a0_0) ∧ w'.cell? ⟨gb107, 1, none⟩ = some (.slice A0_1 l0_1.length c0_1)) (ds := []) #[false, false, false, false, false, false, false] (by kernel_rfl) rfl rfl ⟨(blk_cell BK107.out 0).trans rfl, (blk_cell BK107.out 1).trans rfl⟩ (fun hHeld => ?_)
  generalize w4.drew = w5 at BK107 BK108 HB hHeld ⊢
  refine pure_ (i := 0) (N := some 3) (v := ?_) (a' := ?_) #[true, false, false, false, false, false, false] rfl rfl (by kernel_rfl) (fun _ _ _ h => h) (Or.inl ⟨by rfl, ?_⟩) ?_ ?_
  rotate_left
  · intro w'
    go_simp
    with_reducible rfl
  rotate_left
  · simp only [Act.put, List.setIfInBounds_toArray, List.set_cons_zero, List.set_cons_succ, i64_w, i32_w]
    rfl
  refine pure_ (i := 2) (N := some 5) (v := ?_) (a' := ?_) #[true, false, true, false, false, false, false] rfl rfl (by kernel_rfl) (fun _ _ _ h => h) (Or.inl ⟨by rfl, ?_⟩) ?_ ?_
  rotate_left
  · intro w'
    go_simp
    with_reducible rfl
  rotate_left
  · simp only [Act.put, List.setIfInBounds_toArray, List.set_cons_zero, List.set_cons_succ, i64_w, i32_w]
    rfl
  refine take_ (i := 1) (N := some 4) (v := ?_) (a' := ?_) #[true, true, true, false, false, false, false] rfl rfl (by kernel_rfl) (fun _ _ _ h => h) (Or.inl ⟨by rfl, ?_⟩) hHeld ?_ ?_
  rotate_left
  · rintro w' ⟨s0, s1⟩
    go_simp
    with_reducible rfl
  rotate_left
  · simp only [Act.put, List.setIfInBounds_toArray, List.set_cons_zero, List.set_cons_succ, i64_w, i32_w]
    rfl
  refine take_ (i := 3) (N := some 6) (v := ?_) (a' := ?_) #[true, true, true, true, false, false, false] rfl rfl (by kernel_rfl) (fun _ _ _ h => h) (Or.inl ⟨by rfl, ?_⟩) hHeld ?_ ?_
  rotate_left
  · rintro w' ⟨s0, s1⟩
    go_simp
    with_reducible rfl
  rotate_left
  · simp only [Act.put, List.setIfInBounds_toArray, List.set_cons_zero, List.set_cons_succ, i64_w, i32_w]
    rfl
  refine one_ (i := 4) (N := some 7) #[true, true, true, true, true, false, false] rfl rfl (by kernel_rfl) (by decide) (fun K hK => ?_)
  refine goes_ Try.func157 (by kernel_rfl) rfl #[.slice A0_1 l0_1.length c0_1] (by rfl) rfl rfl (by (try simp only [List.map_toArray, List.map_cons, List.map_nil]); first | done | rfl | (simp only [List.length_drop, List.length_take]; rfl)) ?_
  with_reducible refine (api_Call_157.calls _ _ l0_1 t109 _ ?side1 ?side2 A2.out).mono ?_
  (case side1 => repeat (first | exact (Kd.C_below HR0_1.out HB.out) | (with_reducible refine Kd.C_alloc ?_ _) | (with_reducible refine Kd.C_drewN ?_ _) | (with_reducible refine Kd.C_drew ?_)))
  (case side2 => exact HC0_1.out)
  rintro e w6 ⟨v110, rfl, ho0, hb⟩
  refine ⟨_, rfl, ?_⟩
  have n0_ := Aside0.mk (Kd.R_lower ho0 (below_size (by repeat (first | (with_reducible first | exact HB.out | apply below_alloc | apply pw_below_drewN | apply below_drew1 | refine below_set ?_ GE107.out | refine below_set ?_ GE108.out) | exact HB.out))))
  have n1_ := Aside0.mk (blk_below (g := gb107) (o := .cells #[.int .i64 a0_0, .slice A0_1 l0_1.length c0_1] 25 (0, 0)) (by (with_reducible repeat (first | refine blk_drewN ?_ _ | refine blk_drew ?_ | refine blk_alloc ?_ _)); exact BK107.out) hb)
  have n2_ := Aside0.mk (blk_below (g := gb108) (o := .cells #[.int .i64 0, .slice none 0 0] 25 (0, 0)) (by (with_reducible repeat (first | refine blk_drewN ?_ _ | refine blk_drew ?_ | refine blk_alloc ?_ _)); exact BK108.out) hb)
  have n3_ := Aside0.mk (below_step (by repeat (first | (with_reducible first | exact HB.out | apply below_alloc | apply pw_below_drewN | apply below_drew1 | refine below_set ?_ GE107.out | refine below_set ?_ GE108.out) | exact HB.out)) hb)
  clear BK107
  clear BK108
  clear HB
  have HO111 := n0_
  have BK107 := n1_
  have BK108 := n2_
  have HB := n3_
  clear n0_ n1_ n2_ n3_
  (try clear hb)
  (try clear hb2)
  (try clear hk)
  (try clear hi)
  (try clear ho0)
  obtain ⟨Ao7, co7, eo7⟩ := Kd.R_slice HO111.out
  (first | subst eo7 | (injection eo7 with f1_ f2_ f3_; have f4_ := f1_.symm; have f5_ := f3_.symm; clear f1_ f2_ f3_; subst f4_; subst f5_))
  refine hK.out _ _ ⟨(blk_cell BK107.out 0).trans rfl, (blk_cell BK107.out 1).trans rfl⟩ (fun hHeld => ?_)
  clear hK K
  refine norm_ (a' := ?_) ?_ ?_
  rotate_left
  · show Act.put _ (some 7) _ = _
    simp only [Act.put, List.setIfInBounds_toArray, List.set_cons_zero, List.set_cons_succ, i64_w, i32_w]
    rfl
  refine pure_ (i := 5) (N := some 8) (v := ?_) (a' := ?_) #[true, true, true, true, true, true, false] rfl rfl (by kernel_rfl) (fun _ _ _ h => h) (Or.inl ⟨by rfl, ?_⟩) ?_ ?_
  rotate_left
  · intro w'
    go_simp
    with_reducible rfl
  rotate_left
  · simp only [Act.put, List.setIfInBounds_toArray, List.set_cons_zero, List.set_cons_succ, i64_w, i32_w]
    rfl
  refine one_ (i := 6) (N := none) #[true, true, true, true, true, true, true] rfl rfl (by kernel_rfl) (by decide) (fun K hK => ?_)
  have hs8 : w6.cell? ⟨gb108, 0, none⟩ = some (.int .i64 0) := (blk_cell BK108.out 0).trans rfl
  have hfs8 := blk_frozen BK108.out 0
  have hns8_0 := NB107_108.out
  have hms8_0 := NB108_107.out
  have hs9 : w6.cell? ⟨gb108, 1, none⟩ = some (.slice none 0 0) := (blk_cell BK108.out 1).trans rfl
  have hfs9 := blk_frozen BK108.out 1
  have hns9_0 := NB107_108.out
  have hms9_0 := NB108_107.out
  refine skip_ (w1 := ?_) (by rfl) rfl ?_ ?_
  rotate_left
  · go_simp
    rfl
  refine hK.out _ _ ⟨((cell_far (p := ⟨gb108, _, none⟩) NB107_108.out _).trans (((cell_far (p := ⟨gb108, _, none⟩) NB107_108.out _).trans (hHeld.1)))), ((cell_far (p := ⟨gb108, _, none⟩) NB107_108.out _).trans (((cell_far (p := ⟨gb108, _, none⟩) NB107_108.out _).trans (hHeld.2))))⟩ (fun hHeld => ?_)
  clear hK K
  refine done_ (by kernel_rfl) ?_
  try go_wp2
  all_goals refine bodyPost_ret (results_cell_row rfl _ _ gb108 25 #[.int .i64 a0_0, .slice Ao7 t109.length co7] (0, 0) _ rfl (by (with_reducible repeat (first | refine blk_drewN ?_ _ | refine blk_drew ?_ | refine blk_alloc ?_ _)); refine blk_put (cs := #[.int .i64 a0_0, .slice none 0 0]) ?_ 1 _ rfl; (with_reducible repeat (first | refine blk_drewN ?_ _ | refine blk_drew ?_ | refine blk_alloc ?_ _)); refine blk_put (cs := #[.int .i64 0, .slice none 0 0]) ?_ 0 _ rfl; (with_reducible repeat (first | refine blk_drewN ?_ _ | refine blk_drew ?_ | refine blk_alloc ?_ _)); exact BK108.out) Try.underlying25 rfl (by kernel_rfl)) rfl ?_
  all_goals exact ⟨_, by first | rfl | (simp [errW_none, errW_some] <;> rfl) | (simp [*, errW_none, errW_some] <;> rfl), by (with_reducible repeat (first | apply Kd.R_alloc | apply Kd.R_drewN | apply Kd.R_drew)); exact Kd.R_mono (Kd.R_far (p := ⟨gb108, 1, none⟩) (Kd.R_far (p := ⟨gb108, 0, none⟩) (Kd.R_types HO111.out BK108.out (by decide)) (fun _ hk => hk.2) (.int .i64 a0_0)) (fun _ hk => hk.2) (.slice Ao7 t109.length co7)) (fun _ hk => trivial), by repeat (first | (with_reducible first | exact HB.out | apply below_alloc | apply pw_below_drewN | apply below_drew1 | refine below_set ?_ GE107.out | refine below_set ?_ GE108.out) | exact HB.out)⟩

end Go.Proofs.Ytmfbpkjhabdcgaa.F
end
section
-- Written by fork.py (this session's program over the kit's print.py). Not trusted: Lean checks it.
namespace Go.Proofs.Ytmfbpkjhabdcgaa.F
open Go.RowKit Go.Proofs.YtmfbpkjhabdcgaaW.PrintWords Go.Proofs.YtmfbpkjhabdcgaaW.PrintLast Go.Proofs.YtmfbpkjhabdcgaaW.PrintMore
attribute [local go_sem] max2_int min2_int max_two min_two max_three min_three max_four min_four
set_option linter.unusedVariables false
set_option linter.unusedSimpArgs false

/-! ### table_valid: function 129 -/
def table_valid.f (a0_0 : Int) (l0_1 : List (S29)) : Option (Int) := (table_Check.f a0_0 l0_1).bind fun bt105 => (some bt105.1)
set_option maxHeartbeats 8000000 in
set_option maxRecDepth 100000 in
theorem table_valid.calls (a0_0 : Int) (A0_1 : Option Addr) (c0_1 : Nat) (l0_1 : List (S29)) (r : Int) (w : World) (hr0_1 : Kd.C k29 w A0_1 l0_1.length l0_1) (hc0_1 : l0_1.length ≤ c0_1) (h : table_valid.f a0_0 l0_1 = some r) :
    Calls Try.prog 129 #[.agg #[.int .i64 a0_0, .slice A0_1 l0_1.length c0_1]] w fun e w' => e = .returned (.int .i64 r) ∧ Below w.heap.size w w' := by
  have hu25 := Try.underlying25
  have HR0_1 := Aside0.mk hr0_1
  have HC0_1 := Aside0.mk hc0_1
  clear hr0_1 hc0_1
  have HB := Aside0.mk (Below.refl w.heap.size w)
  have H : ((table_Check.f a0_0 l0_1).bind fun bt105 => (some bt105.1)) = some r := h
  clear h
  replace H := Option.bind_eq_some_iff.mp H
  obtain ⟨⟨t105, t106⟩, A20, H⟩ := H
  replace H : (some t105) = some r := H
  have A2 := Aside0.mk A20
  clear A20
  obtain rfl := Option.some.inj H
  go_enter Try.func129, Try.ntmps129
  go_wp2_with (first | ((with_reducible refine gate_dst (N := 1) rfl ?_); refine box_event ?hg (N := 1) ?hd (cs := #[.int .i64 a0_0, .slice A0_1 l0_1.length c0_1]) (t := 25) ?hr ?_; (case hd => rfl); (case hg => rfl); (case hr => first | (go_simp; done) | (go_simp; rfl)); intro gb104 hg w3 hbox hb; have n0_ := Aside0.mk (below_step (by repeat (first | (with_reducible first | exact HB.out | apply below_alloc | apply pw_below_drewN | apply below_drew1) | exact HB.out)) hb); have n1_ := Aside0.mk (hbox); have n2_ := Aside0.mk ((by rw [hg]; exact (below_size (by repeat (first | (with_reducible first | exact HB.out | apply below_alloc | apply pw_below_drewN | apply below_drew1) | exact HB.out))) : w.heap.size ≤ gb104)); have n3_ := Aside0.mk ((by rw [hg]; exact (below_size (by repeat (first | (with_reducible first | exact HB.out | apply below_alloc | apply pw_below_drewN | apply below_drew1) | exact HB.out))) : w.heap.size ≤ gb104)); clear HB; have HB := n0_; have BK104 := n1_; have GW104 := n2_; have GE104 := n3_; clear n0_ n1_ n2_ n3_; clear hb hbox hg; have hcz4_0 : w3.cell? ⟨gb104, 0, none⟩ = some (.int .i64 a0_0) := (blk_cell BK104.out 0).trans rfl; have hcz4_1 : w3.cell? ⟨gb104, 1, none⟩ = some (.slice A0_1 l0_1.length c0_1) := (blk_cell BK104.out 1).trans rfl; have hfz4_0 := blk_frozen BK104.out 0; have hfz4_1 := blk_frozen BK104.out 1) | ((with_reducible refine gate_callee (f := 128) rfl ?_); refine goesL_ (some 7) rfl rfl Try.func128 (by kernel_rfl) rfl #[.agg #[.int .i64 a0_0, .slice A0_1 l0_1.length c0_1]] rfl (by (try simp only [List.map_toArray, List.map_cons, List.map_nil]); first | done | rfl | (simp only [List.length_drop, List.length_take]; rfl)) ?_; (with_reducible refine (table_Check.calls a0_0 _ _ l0_1 t105 t106 _ ?side1 ?side2 A2.out).mono ?_); (case side1 => repeat (first | exact (Kd.C_below HR0_1.out HB.out) | (with_reducible refine Kd.C_alloc ?_ _) | (with_reducible refine Kd.C_drewN ?_ _) | (with_reducible refine Kd.C_drew ?_))); (case side2 => exact HC0_1.out); rintro e w5 ⟨rfl, hb⟩; refine ⟨_, rfl, ?_⟩; have n0_ := Aside0.mk (blk_below (g := gb104) (o := .cells #[.int .i64 a0_0, .slice A0_1 l0_1.length c0_1] 25 (0, 0)) (by (with_reducible repeat (first | refine blk_drewN ?_ _ | refine blk_drew ?_ | refine blk_alloc ?_ _)); exact BK104.out) hb); have n1_ := Aside0.mk (below_step (by repeat (first | (with_reducible first | exact HB.out | apply below_alloc | apply pw_below_drewN | apply below_drew1 | refine below_set ?_ GE104.out) | exact HB.out)) hb); clear BK104; clear HB; have BK104 := n0_; have HB := n1_; clear n0_ n1_; (try clear hb); (try clear hb2); (try clear hk); (try clear hi)))
  all_goals go_ret
  all_goals exact ⟨by first | rfl | (simp [errW_none, errW_some] <;> rfl) | (simp [*, errW_none, errW_some] <;> rfl), by repeat (first | (with_reducible first | exact HB.out | apply below_alloc | apply pw_below_drewN | apply below_drew1 | refine below_set ?_ GE104.out) | exact HB.out)⟩


end Go.Proofs.Ytmfbpkjhabdcgaa.F
end
section
/- Contract of table.Put. -/
namespace Go.Proofs.Ytmfbpkjhabdcgaa.F
open Go.RowKit Go.Proofs.YtmfbpkjhabdcgaaW.PrintWords Go.Proofs.YtmfbpkjhabdcgaaW.PrintLast Go.Proofs.YtmfbpkjhabdcgaaW.PrintMore
set_option linter.unusedVariables false
set_option linter.unusedSimpArgs false

/-- What Put does with a table and a call that are valid. -/
def putEnd (a0_0 : Int) (l0_1 : List S29) (c : S29) : Option (Int × (List S29) × Int × Int) :=
  if l0_1.length < 4398046511104 then (if l0_1.any (fun x => sameKey x c) = true then some (a0_0, l0_1, 2, 0) else if (l0_1.length : Int) = a0_0 then some (a0_0, l0_1, 3, 0) else some (a0_0, l0_1 ++ [c], 1, 0)) else none

def table_Put.f (a0_0 : Int) (l0_1 : List (S29)) (a1_0 : Int) (a1_1 : Int) (a1_2 : Int) (a1_3 : Int) : Option (Int × (List (S29)) × Int × Int) :=
  (table_valid.f a0_0 l0_1).bind fun e0 => if e0 = 0 then (call_Check.f 3 a1_0 a1_1 a1_2 a1_3).bind fun e1 => (if e1 = 0 then (if 0 < (l0_1.length : Int) ∧ a1_3 < (rd_T29 l0_1 ((l0_1.length : Int) - 1)).f3 then some (0, [], 0, 8) else putEnd a0_0 l0_1 ⟨a1_0, a1_1, a1_2, a1_3⟩) else some (0, [], 0, e1)) else some (0, [], 0, e0)

set_option maxHeartbeats 4000000 in
set_option maxRecDepth 100000 in
theorem table_Put.calls (a0_0 : Int) (A0_1 : Option Addr) (c0_1 : Nat) (l0_1 : List (S29)) (a1_0 : Int) (a1_1 : Int) (a1_2 : Int) (a1_3 : Int) (r1 : Int) (r2 : List (S29)) (r3 : Int) (r4 : Int) (w : World) (hr0_1 : Kd.C k29 w A0_1 l0_1.length l0_1) (hc0_1 : l0_1.length ≤ c0_1) (h : table_Put.f a0_0 l0_1 a1_0 a1_1 a1_2 a1_3 = some (r1, r2, r3, r4)) :
    Calls Try.prog 52 #[.agg #[.int .i64 a0_0, .slice A0_1 l0_1.length c0_1], .agg #[.int .i64 a1_0, .int .i64 a1_1, .int .i64 a1_2, .int .i64 a1_3]] w fun e w' => ∃ v1_ : Value, e = .returned (.tuple #[.agg #[.int .i64 r1, v1_], .int .i64 r3, .int .i64 r4]) ∧ Kd.R k29 29 w' w.heap.size (fun _ => True) v1_ r2 ∧ Below w.heap.size w w' := by
  have hu25 := Try.underlying25
  have hu29 := Try.underlying29
  unfold table_Put.f at h
  obtain ⟨e0, he0, h⟩ := Option.bind_eq_some_iff.mp h
  have HE := Aside0.mk he0
  have HC := Aside0.mk hr0_1
  clear he0 hr0_1
  by_cases c0 : e0 = 0
  · subst c0
    rw [if_pos rfl] at h
    obtain ⟨e1, he1, h⟩ := Option.bind_eq_some_iff.mp h
    have HE1 := Aside0.mk he1
    clear he1
    by_cases c1 : e1 = 0
    · subst c1
      rw [if_pos rfl] at h
      have HH := Aside0.mk h
      clear h
      go_enter Try.func52, Try.ntmps52
      go_upto_region 5 with (first | ((with_reducible refine gate_dst (N := 2) rfl ?_); refine box_event ?hg (N := 2) ?hd (cs := #[.int .i64 a0_0, .slice A0_1 l0_1.length c0_1]) (t := 25) ?hr ?_; (case hd => rfl); (case hg => rfl); (case hr => first | (go_simp; done) | (go_simp; rfl)); intro gt hg_ w1 hx_ hb_; have HB1 := Aside0.mk hb_; have HX1 := Aside0.mk hx_; have HGT := Aside0.mk (show w.heap.size ≤ gt by rw [hg_]; exact Nat.le_refl _); clear hg_ hb_ hx_) | ((with_reducible refine gate_dst (N := 3) rfl ?_); refine box_event ?hg (N := 3) ?hd (cs := #[.int .i64 a1_0, .int .i64 a1_1, .int .i64 a1_2, .int .i64 a1_3]) (t := 29) ?hr ?_; (case hd => rfl); (case hg => rfl); (case hr => first | (go_simp; done) | (go_simp; rfl)); intro gc hg_ w2 hx_ hb_; have HB2 := Aside0.mk (below_then HB1.out HB1.out.size hb_); have HC2 := Aside0.mk hx_; have HX2 := Aside0.mk (blk_below HX1.out hb_); clear hg_ hb_ hx_) | ((with_reducible refine gate_dst (N := 4) rfl ?_); refine box_event ?hg (N := 4) ?hd (cs := #[.int .i64 0, .slice none 0 0]) (t := 25) ?hr ?_; (case hd => rfl); (case hg => rfl); (case hr => first | (go_simp; done) | (go_simp; rfl)); intro g4 hg_ w3 hx_ hb_; have HB3 := Aside0.mk (below_then HB2.out HB2.out.size hb_); have HG4 := Aside0.mk (show w.heap.size ≤ g4 by rw [hg_]; exact HB2.out.size); have H43 := Aside0.mk hx_; have HC3 := Aside0.mk (blk_below HC2.out hb_); have HX3 := Aside0.mk (blk_below HX2.out hb_); have r0 := (blk_cell HX3.out 0).trans rfl; have rb := (blk_cell HX3.out 1).trans rfl; clear hg_ hb_ hx_) | (go_at_call 129; refine (table_valid.calls a0_0 A0_1 c0_1 l0_1 _ _ (Kd.C_below HC.out HB3.out) hc0_1 HE.out).mono ?_; rintro e w4 ⟨rfl, hb_⟩; have HB4 := Aside0.mk (below_then HB3.out HB3.out.size hb_); have HX4 := Aside0.mk (blk_below HX3.out hb_); have HC4 := Aside0.mk (blk_below HC3.out hb_); have H44 := Aside0.mk (blk_below H43.out hb_); have c0 := (blk_cell HC4.out 0).trans rfl; have c1 := (blk_cell HC4.out 1).trans rfl; have c2 := (blk_cell HC4.out 2).trans rfl; have c3 := (blk_cell HC4.out 3).trans rfl; have s0 := (blk_cell HX4.out 0).trans rfl; have s1 := (blk_cell HX4.out 1).trans rfl; clear hb_) | (go_at_call 139; refine (call_Check.calls 3 _ _ _ _ _ _ HE1.out).mono ?_; rintro e w5 ⟨rfl, hb_⟩; have HB5 := Aside0.mk (below_then HB4.out HB4.out.size hb_); have HX5 := Aside0.mk (blk_below HX4.out hb_); have HC5 := Aside0.mk (blk_below HC4.out hb_); have H45 := Aside0.mk (blk_below H44.out hb_); have k0 := (blk_cell HC5.out 0).trans rfl; have k1 := (blk_cell HC5.out 1).trans rfl; have k2 := (blk_cell HC5.out 2).trans rfl; have k3 := (blk_cell HC5.out 3).trans rfl; have t0 := (blk_cell HX5.out 0).trans rfl; have t1 := (blk_cell HX5.out 1).trans rfl; clear hb_))
      (try simp only [Act.put, List.setIfInBounds_toArray, List.set_cons_zero, List.set_cons_succ])
      go_cut [36] (fun v36 wc => ∃ b : Bool, v36 = .bool b ∧ Aside0 ((if b = true then some (0, [], 0, 8) else putEnd a0_0 l0_1 ⟨a1_0, a1_1, a1_2, a1_3⟩) = some (r1, r2, r3, r4)) ∧ Aside0 (wc.heap[gt]? = some (.cells #[.int .i64 a0_0, .slice A0_1 l0_1.length c0_1] 25 (0, 0))) ∧ Aside0 (wc.heap[gc]? = some (.cells #[.int .i64 a1_0, .int .i64 a1_1, .int .i64 a1_2, .int .i64 a1_3] 29 (0, 0))) ∧ Aside0 (wc.heap[g4]? = some (.cells #[.int .i64 0, .slice none 0 0] 25 (0, 0))) ∧ Aside0 (Below w.heap.size w wc))
      case first =>
        have hmx : Try.prog.follows .mixedOrders = true := by kernel_rfl
        have H := HH.out
        by_cases hn : 0 < l0_1.length
        · have d0 : decide (0 < l0_1.length) = true := decide_eq_true hn
          obtain ⟨jj, hjj⟩ : ∃ jj : Int, (l0_1.length : Int) - 1 = jj := ⟨_, rfl⟩
          have hlb : (l0_1.length : Int) ≤ 9223372036854775807 := by have := C_len HC.out; unfold maxLen at this; omega
          have hw1 : IntKind.i64.wrap ((l0_1.length : Int) - 1) = jj := by rw [i64_w, hjj]; unfold wrap64; omega
          rw [hjj] at H
          obtain ⟨ad2, hA2, z0, z1, z2, z3⟩ := at_T29 (Kd.C_below HC.out HB5.out) jj (by omega) (by omega)
          cases hA2
          generalize (rd_T29 l0_1 jj).f3 = y4 at z3 H
          have p1 : decide (0 ≤ jj) = true := decide_eq_true (by omega)
          have p2 : decide (jj < (l0_1.length : Int)) = true := decide_eq_true (by omega)
          have p3 : 0 ≤ jj := by omega
          have p4 : jj < (l0_1.length : Int) := by omega
          replace p3 := eq_true p3
          replace p4 := eq_true p4
          have HF := Aside0.mk (show (if decide (a1_3 < y4) = true then some (0, [], 0, 8) else putEnd a0_0 l0_1 ⟨a1_0, a1_1, a1_2, a1_3⟩) = some (r1, r2, r3, r4) by
            by_cases hq : a1_3 < y4
            · rw [if_pos (decide_eq_true hq)]; rw [if_pos (show 0 < (l0_1.length : Int) ∧ a1_3 < y4 from ⟨by omega, hq⟩)] at H; exact H
            · rw [if_neg (by simpa using hq)]; rw [if_neg (show ¬ (0 < (l0_1.length : Int) ∧ a1_3 < y4) from fun h => hq h.2)] at H; exact H)
          clear H HH hjj hn hlb
          go_region
          all_goals go_wp2
          go_meet
          case rel => exact ⟨_, rfl, HF, ⟨blk_drew HX5.out⟩, ⟨blk_drew HC5.out⟩, ⟨blk_drew H45.out⟩, ⟨below_drew1 HB5.out⟩⟩
        · have d0 : decide (0 < l0_1.length) = false := decide_eq_false hn
          rw [if_neg (show ¬ (0 < (l0_1.length : Int) ∧ a1_3 < (rd_T29 l0_1 ((l0_1.length : Int) - 1)).f3) from fun h => hn (by omega))] at H
          have HF := Aside0.mk (show (if false = true then some (0, [], 0, 8) else putEnd a0_0 l0_1 ⟨a1_0, a1_1, a1_2, a1_3⟩) = some (r1, r2, r3, r4) by
            rw [if_neg (by decide)]; exact H)
          clear H HH hn
          go_region
          all_goals go_wp2
          go_meet
          case rel => exact ⟨_, rfl, HF, ⟨blk_drew HX5.out⟩, ⟨blk_drew HC5.out⟩, ⟨blk_drew H45.out⟩, ⟨below_drew1 HB5.out⟩⟩
      case rest =>
        obtain ⟨b, rfl, HR, HXc, HCc, H4c, HBc⟩ := hcut
        clear HH HX2 HX3 HX4 HX5 HC2 HC3 HC4 HC5 H43 H44 H45 HB1 HB2 HB3 HB4 HB5 HX1 c0 c1 c2 c3 k0 k1 k2 k3 r0 rb
        by_cases hb : b = true
        · subst hb
          have H := HR.out
          rw [if_pos rfl] at H
          simp only [Option.some.injEq, Prod.mk.injEq] at H
          obtain ⟨rfl, rfl, rfl, rfl⟩ := H
          clear HR
          have y0 := (blk_cell H4c.out 0).trans rfl
          have y1 := (blk_cell H4c.out 1).trans rfl
          have y2 := blk_frozen H4c.out 0
          have y3 := blk_frozen H4c.out 1
          go_wp2
          refine bodyPost_ret (results_ctt rfl _ _ g4 25 #[.int .i64 0, .slice none 0 0] (0, 0) _ rfl (blk_put (blk_put H4c.out 0 _ rfl) 1 _ rfl) Try.underlying25 rfl (by kernel_rfl)) rfl ?_
          exact ⟨_, rfl, Kd.R_nil _ _ _ _ _, (HBc.out.setCell (p := ⟨g4, 0, none⟩) HG4.out _).setCell (p := ⟨g4, 1, none⟩) HG4.out _⟩
        · have hb' : b = false := by simpa using hb
          subst hb'
          have H := HR.out
          rw [if_neg (by decide)] at H
          clear HR hb
          unfold putEnd at H
          split at H
          case isFalse => cases H
          case isTrue hl =>
          have HLL := Aside0.mk hl
          have HCL := Aside0.mk (show table_clone.f a0_0 l0_1 = some (a0_0, l0_1) by unfold table_clone.f api_Call_157.f; rw [if_pos hl]; rfl)
          clear hl
          have r0 := (blk_cell HXc.out 0).trans rfl
          have rb := (blk_cell HXc.out 1).trans rfl
          by_cases k1 : l0_1.any (fun x => sameKey x ⟨a1_0, a1_1, a1_2, a1_3⟩) = true
          · rw [if_pos k1] at H
            simp only [Option.some.injEq, Prod.mk.injEq] at H
            obtain ⟨rfl, rfl, rfl, rfl⟩ := H
            go_wp2_with (first | (go_at_call 140; refine (table_clone.calls a0_0 A0_1 c0_1 l0_1 a0_0 l0_1 _ (Kd.C_below HC.out HBc.out) hc0_1 HCL.out).mono ?_; rintro e w6 ⟨v6, rfl, ho6, hb_⟩; obtain ⟨A6, c6, e6⟩ := Kd.R_slice ho6; subst e6; have HO6 := Aside0.mk (Kd.R_mono (ok' := fun k => wc.heap.size ≤ k ∧ k < w6.heap.size) (Kd.R_bound ho6) (fun k hk => ⟨hk.2.1, hk.2.2.1⟩)); have HB6 := Aside0.mk (below_then HBc.out HBc.out.size hb_); have HX6 := Aside0.mk (blk_below HXc.out hb_); have HC6 := Aside0.mk (blk_below HCc.out hb_); have H46 := Aside0.mk (blk_below H4c.out hb_); have HL4 := Aside0.mk (show g4 < wc.heap.size from blk_lt H4c.out); have HS6 := Aside0.mk hb_.size; clear hb_ ho6) | ((with_reducible refine gate_dst (N := 9) rfl ?_); refine box_event ?hg (N := 9) ?hd (cs := #[.int .i64 0, .slice none 0 0]) (t := 25) ?hr ?_; (case hd => rfl); (case hg => rfl); (case hr => first | (go_simp; done) | (go_simp; rfl)); intro g9 hg_ w7 hx_ hb_; have HB7 := Aside0.mk (below_then HB6.out HB6.out.size hb_); have HG9 := Aside0.mk (show w6.heap.size ≤ g9 by rw [hg_]; exact Nat.le_refl _); have H97 := Aside0.mk hx_; have HO7 := Aside0.mk (Kd.R_below HO6.out hb_); have HX7 := Aside0.mk (blk_below HX6.out hb_); have HC7 := Aside0.mk (blk_below HC6.out hb_); have H47 := Aside0.mk (blk_below H46.out hb_); have HN49 := Aside0.mk (show g4 ≠ g9 by rw [hg_]; exact Nat.ne_of_lt (blk_lt H46.out)); have HNX9 := Aside0.mk (show gt ≠ g9 by rw [hg_]; exact Nat.ne_of_lt (blk_lt HX6.out)); have HNC9 := Aside0.mk (show gc ≠ g9 by rw [hg_]; exact Nat.ne_of_lt (blk_lt HC6.out)); have HS7 := Aside0.mk hb_.size; clear hg_ hb_ hx_) | ((with_reducible refine gate_store (t := 25) (p := 9) (v := .tmp 42) rfl ?_); refine box_store rfl rfl 25 (.tmp 9) (.tmp 42) rfl [.int .i64 a0_0, .slice A6 l0_1.length c6] _ rfl rfl rfl (by rfl) (by simp [Value.oneCell']) H97.out rfl ?_; intro w8 hbk hg8 hsz8; have H98 := Aside0.mk hbk; have HB8 := Aside0.mk (HB7.out.grown hg8 HB7.out.size (fun k hk => by have := HG9.out; have := HB6.out.size; have h9 := Option.some.inj hk; omega)); have HX8 := Aside0.mk ((hg8.block gt (blk_lt HX7.out) (fun e => HNX9.out (Option.some.inj e))).trans HX7.out); have HC8 := Aside0.mk ((hg8.block gc (blk_lt HC7.out) (fun e => HNC9.out (Option.some.inj e))).trans HC7.out); have H48 := Aside0.mk ((hg8.block g4 (blk_lt H47.out) (fun e => HN49.out (Option.some.inj e))).trans H47.out); have HO8 := Aside0.mk (Kd.R_move HO7.out (fun k hk => hg8.block k (by have := hk.2; have := HS7.out; omega) (fun e => by have := hk.2; have := HG9.out; have h9 := Option.some.inj e; omega))); have m0 := (blk_cell HX8.out 0).trans rfl; have m1 := (blk_cell HX8.out 1).trans rfl; clear hbk hg8 hsz8) | (go_at_call 141; refine (containsFunc_calls 142 _ (enters_of Try.func142 (by kernel_rfl) rfl) (fun x => sameKey x ⟨a1_0, a1_1, a1_2, a1_3⟩) A0_1 c0_1 l0_1 _ none (Kd.C_below HC.out HB8.out) hc0_1 (put1_pred _ none gc ⟨a1_0, a1_1, a1_2, a1_3⟩ HC8.out (fun e => by cases e))).mono ?_; rintro e w9 ⟨rfl, hb_⟩; have HB9 := Aside0.mk (below_then HB8.out HB8.out.size hb_); have H99 := Aside0.mk (blk_below H98.out hb_); have H49 := Aside0.mk (blk_below H48.out hb_); have HX9 := Aside0.mk (blk_below HX8.out hb_); have HC9 := Aside0.mk (blk_below HC8.out hb_); have HO9 := Aside0.mk (Kd.R_below HO8.out hb_); have n0 := (blk_cell H99.out 0).trans rfl; have n1 := (blk_cell H99.out 1).trans rfl; have n2 := (blk_cell HX9.out 0).trans rfl; have n3 := (blk_cell HX9.out 1).trans rfl; have y0 := (blk_cell H49.out 0).trans rfl; have y1 := (blk_cell H49.out 1).trans rfl; have y2 := blk_frozen H49.out 0; have y3 := blk_frozen H49.out 1; have x0 := (blk_cell HC9.out 0).trans rfl; have x1 := (blk_cell HC9.out 1).trans rfl; have x2 := (blk_cell HC9.out 2).trans rfl; have x3 := (blk_cell HC9.out 3).trans rfl; clear hb_))
            refine bodyPost_ret (results_ctt rfl _ _ g4 25 #[.int .i64 a0_0, .slice A6 l0_1.length c6] (0, 0) _ rfl (blk_put (blk_put H49.out 0 _ rfl) 1 _ rfl) Try.underlying25 rfl (by kernel_rfl)) rfl ?_
            refine ⟨_, rfl, Kd.R_lower (Kd.R_mono (Kd.R_move HO9.out (fun k hk => (Below.heap_setCell _ _ _ _ (fun e => ?_)).trans (Below.heap_setCell _ _ _ _ (fun e => ?_)))) (fun _ _ => trivial)) HBc.out.size, (HB9.out.setCell (p := ⟨g4, 0, none⟩) HG4.out _).setCell (p := ⟨g4, 1, none⟩) HG4.out _⟩
            all_goals (have := hk.1; have := HL4.out; have e' : k = g4 := e; omega)
          · rw [if_neg k1] at H
            by_cases k2 : (l0_1.length : Int) = a0_0
            · rw [if_pos k2] at H
              simp only [Option.some.injEq, Prod.mk.injEq] at H
              obtain ⟨rfl, rfl, rfl, rfl⟩ := H
              have d2 : ((l0_1.length : Int) == a0_0) = true := beq_iff_eq.mpr k2
              go_wp2_with (first | (go_at_call 140; refine (table_clone.calls a0_0 A0_1 c0_1 l0_1 a0_0 l0_1 _ (Kd.C_below HC.out HBc.out) hc0_1 HCL.out).mono ?_; rintro e w6 ⟨v6, rfl, ho6, hb_⟩; obtain ⟨A6, c6, e6⟩ := Kd.R_slice ho6; subst e6; have HO6 := Aside0.mk (Kd.R_mono (ok' := fun k => wc.heap.size ≤ k ∧ k < w6.heap.size) (Kd.R_bound ho6) (fun k hk => ⟨hk.2.1, hk.2.2.1⟩)); have HB6 := Aside0.mk (below_then HBc.out HBc.out.size hb_); have HX6 := Aside0.mk (blk_below HXc.out hb_); have HC6 := Aside0.mk (blk_below HCc.out hb_); have H46 := Aside0.mk (blk_below H4c.out hb_); have HL4 := Aside0.mk (show g4 < wc.heap.size from blk_lt H4c.out); have HS6 := Aside0.mk hb_.size; clear hb_ ho6) | ((with_reducible refine gate_dst (N := 9) rfl ?_); refine box_event ?hg (N := 9) ?hd (cs := #[.int .i64 0, .slice none 0 0]) (t := 25) ?hr ?_; (case hd => rfl); (case hg => rfl); (case hr => first | (go_simp; done) | (go_simp; rfl)); intro g9 hg_ w7 hx_ hb_; have HB7 := Aside0.mk (below_then HB6.out HB6.out.size hb_); have HG9 := Aside0.mk (show w6.heap.size ≤ g9 by rw [hg_]; exact Nat.le_refl _); have H97 := Aside0.mk hx_; have HO7 := Aside0.mk (Kd.R_below HO6.out hb_); have HX7 := Aside0.mk (blk_below HX6.out hb_); have HC7 := Aside0.mk (blk_below HC6.out hb_); have H47 := Aside0.mk (blk_below H46.out hb_); have HN49 := Aside0.mk (show g4 ≠ g9 by rw [hg_]; exact Nat.ne_of_lt (blk_lt H46.out)); have HNX9 := Aside0.mk (show gt ≠ g9 by rw [hg_]; exact Nat.ne_of_lt (blk_lt HX6.out)); have HNC9 := Aside0.mk (show gc ≠ g9 by rw [hg_]; exact Nat.ne_of_lt (blk_lt HC6.out)); have HS7 := Aside0.mk hb_.size; clear hg_ hb_ hx_) | ((with_reducible refine gate_store (t := 25) (p := 9) (v := .tmp 42) rfl ?_); refine box_store rfl rfl 25 (.tmp 9) (.tmp 42) rfl [.int .i64 a0_0, .slice A6 l0_1.length c6] _ rfl rfl rfl (by rfl) (by simp [Value.oneCell']) H97.out rfl ?_; intro w8 hbk hg8 hsz8; have H98 := Aside0.mk hbk; have HB8 := Aside0.mk (HB7.out.grown hg8 HB7.out.size (fun k hk => by have := HG9.out; have := HB6.out.size; have h9 := Option.some.inj hk; omega)); have HX8 := Aside0.mk ((hg8.block gt (blk_lt HX7.out) (fun e => HNX9.out (Option.some.inj e))).trans HX7.out); have HC8 := Aside0.mk ((hg8.block gc (blk_lt HC7.out) (fun e => HNC9.out (Option.some.inj e))).trans HC7.out); have H48 := Aside0.mk ((hg8.block g4 (blk_lt H47.out) (fun e => HN49.out (Option.some.inj e))).trans H47.out); have HO8 := Aside0.mk (Kd.R_move HO7.out (fun k hk => hg8.block k (by have := hk.2; have := HS7.out; omega) (fun e => by have := hk.2; have := HG9.out; have h9 := Option.some.inj e; omega))); have m0 := (blk_cell HX8.out 0).trans rfl; have m1 := (blk_cell HX8.out 1).trans rfl; clear hbk hg8 hsz8) | (go_at_call 141; refine (containsFunc_calls 142 _ (enters_of Try.func142 (by kernel_rfl) rfl) (fun x => sameKey x ⟨a1_0, a1_1, a1_2, a1_3⟩) A0_1 c0_1 l0_1 _ none (Kd.C_below HC.out HB8.out) hc0_1 (put1_pred _ none gc ⟨a1_0, a1_1, a1_2, a1_3⟩ HC8.out (fun e => by cases e))).mono ?_; rintro e w9 ⟨rfl, hb_⟩; have HB9 := Aside0.mk (below_then HB8.out HB8.out.size hb_); have H99 := Aside0.mk (blk_below H98.out hb_); have H49 := Aside0.mk (blk_below H48.out hb_); have HX9 := Aside0.mk (blk_below HX8.out hb_); have HC9 := Aside0.mk (blk_below HC8.out hb_); have HO9 := Aside0.mk (Kd.R_below HO8.out hb_); have n0 := (blk_cell H99.out 0).trans rfl; have n1 := (blk_cell H99.out 1).trans rfl; have n2 := (blk_cell HX9.out 0).trans rfl; have n3 := (blk_cell HX9.out 1).trans rfl; have y0 := (blk_cell H49.out 0).trans rfl; have y1 := (blk_cell H49.out 1).trans rfl; have y2 := blk_frozen H49.out 0; have y3 := blk_frozen H49.out 1; have x0 := (blk_cell HC9.out 0).trans rfl; have x1 := (blk_cell HC9.out 1).trans rfl; have x2 := (blk_cell HC9.out 2).trans rfl; have x3 := (blk_cell HC9.out 3).trans rfl; clear hb_))
              refine bodyPost_ret (results_ctt rfl _ _ g4 25 #[.int .i64 a0_0, .slice A6 l0_1.length c6] (0, 0) _ rfl (blk_put (blk_put H49.out 0 _ rfl) 1 _ rfl) Try.underlying25 rfl (by kernel_rfl)) rfl ?_
              refine ⟨_, rfl, Kd.R_lower (Kd.R_mono (Kd.R_move HO9.out (fun k hk => (Below.heap_setCell _ _ _ _ (fun e => ?_)).trans (Below.heap_setCell _ _ _ _ (fun e => ?_)))) (fun _ _ => trivial)) HBc.out.size, (HB9.out.setCell (p := ⟨g4, 0, none⟩) HG4.out _).setCell (p := ⟨g4, 1, none⟩) HG4.out _⟩
              all_goals (have := hk.1; have := HL4.out; have e' : k = g4 := e; omega)
            · rw [if_neg k2] at H
              simp only [Option.some.injEq, Prod.mk.injEq] at H
              obtain ⟨rfl, rfl, rfl, rfl⟩ := H
              have d2 : ((l0_1.length : Int) == a0_0) = false := beq_eq_false_iff_ne.mpr k2
              clear k2
              go_wp2_with (first | (go_at_call 140; refine (table_clone.calls a0_0 A0_1 c0_1 l0_1 a0_0 l0_1 _ (Kd.C_below HC.out HBc.out) hc0_1 HCL.out).mono ?_; rintro e w6 ⟨v6, rfl, ho6, hb_⟩; obtain ⟨A6, c6, e6⟩ := Kd.R_slice ho6; subst e6; have HO6 := Aside0.mk (Kd.R_mono (ok' := fun k => wc.heap.size ≤ k ∧ k < w6.heap.size) (Kd.R_bound ho6) (fun k hk => ⟨hk.2.1, hk.2.2.1⟩)); have HB6 := Aside0.mk (below_then HBc.out HBc.out.size hb_); have HX6 := Aside0.mk (blk_below HXc.out hb_); have HC6 := Aside0.mk (blk_below HCc.out hb_); have H46 := Aside0.mk (blk_below H4c.out hb_); have HL4 := Aside0.mk (show g4 < wc.heap.size from blk_lt H4c.out); have HS6 := Aside0.mk hb_.size; clear hb_ ho6) | ((with_reducible refine gate_dst (N := 9) rfl ?_); refine box_event ?hg (N := 9) ?hd (cs := #[.int .i64 0, .slice none 0 0]) (t := 25) ?hr ?_; (case hd => rfl); (case hg => rfl); (case hr => first | (go_simp; done) | (go_simp; rfl)); intro g9 hg_ w7 hx_ hb_; have HB7 := Aside0.mk (below_then HB6.out HB6.out.size hb_); have HG9 := Aside0.mk (show w6.heap.size ≤ g9 by rw [hg_]; exact Nat.le_refl _); have H97 := Aside0.mk hx_; have HO7 := Aside0.mk (Kd.R_below HO6.out hb_); have HX7 := Aside0.mk (blk_below HX6.out hb_); have HC7 := Aside0.mk (blk_below HC6.out hb_); have H47 := Aside0.mk (blk_below H46.out hb_); have HN49 := Aside0.mk (show g4 ≠ g9 by rw [hg_]; exact Nat.ne_of_lt (blk_lt H46.out)); have HNX9 := Aside0.mk (show gt ≠ g9 by rw [hg_]; exact Nat.ne_of_lt (blk_lt HX6.out)); have HNC9 := Aside0.mk (show gc ≠ g9 by rw [hg_]; exact Nat.ne_of_lt (blk_lt HC6.out)); have HS7 := Aside0.mk hb_.size; clear hg_ hb_ hx_) | ((with_reducible refine gate_store (t := 25) (p := 9) (v := .tmp 42) rfl ?_); refine box_store rfl rfl 25 (.tmp 9) (.tmp 42) rfl [.int .i64 a0_0, .slice A6 l0_1.length c6] _ rfl rfl rfl (by rfl) (by simp [Value.oneCell']) H97.out rfl ?_; intro w8 hbk hg8 hsz8; have H98 := Aside0.mk hbk; have HB8 := Aside0.mk (HB7.out.grown hg8 HB7.out.size (fun k hk => by have := HG9.out; have := HB6.out.size; have h9 := Option.some.inj hk; omega)); have HX8 := Aside0.mk ((hg8.block gt (blk_lt HX7.out) (fun e => HNX9.out (Option.some.inj e))).trans HX7.out); have HC8 := Aside0.mk ((hg8.block gc (blk_lt HC7.out) (fun e => HNC9.out (Option.some.inj e))).trans HC7.out); have H48 := Aside0.mk ((hg8.block g4 (blk_lt H47.out) (fun e => HN49.out (Option.some.inj e))).trans H47.out); have HO8 := Aside0.mk (Kd.R_move HO7.out (fun k hk => hg8.block k (by have := hk.2; have := HS7.out; omega) (fun e => by have := hk.2; have := HG9.out; have h9 := Option.some.inj e; omega))); have m0 := (blk_cell HX8.out 0).trans rfl; have m1 := (blk_cell HX8.out 1).trans rfl; clear hbk hg8 hsz8) | (go_at_call 141; refine (containsFunc_calls 142 _ (enters_of Try.func142 (by kernel_rfl) rfl) (fun x => sameKey x ⟨a1_0, a1_1, a1_2, a1_3⟩) A0_1 c0_1 l0_1 _ none (Kd.C_below HC.out HB8.out) hc0_1 (put1_pred _ none gc ⟨a1_0, a1_1, a1_2, a1_3⟩ HC8.out (fun e => by cases e))).mono ?_; rintro e w9 ⟨rfl, hb_⟩; have HB9 := Aside0.mk (below_then HB8.out HB8.out.size hb_); have H99 := Aside0.mk (blk_below H98.out hb_); have H49 := Aside0.mk (blk_below H48.out hb_); have HX9 := Aside0.mk (blk_below HX8.out hb_); have HC9 := Aside0.mk (blk_below HC8.out hb_); have HO9 := Aside0.mk (Kd.R_below HO8.out hb_); have n0 := (blk_cell H99.out 0).trans rfl; have n1 := (blk_cell H99.out 1).trans rfl; have n2 := (blk_cell HX9.out 0).trans rfl; have n3 := (blk_cell HX9.out 1).trans rfl; have y0 := (blk_cell H49.out 0).trans rfl; have y1 := (blk_cell H49.out 1).trans rfl; have y2 := blk_frozen H49.out 0; have y3 := blk_frozen H49.out 1; have x0 := (blk_cell HC9.out 0).trans rfl; have x1 := (blk_cell HC9.out 1).trans rfl; have x2 := (blk_cell HC9.out 2).trans rfl; have x3 := (blk_cell HC9.out 3).trans rfl; clear hb_) | ((with_reducible refine gate_builtin (b := .append) (xs := #[.tmp 58, .tmp 60]) rfl ?_); at_builtin; refine Kd.R_append k29 (w0 := w) w.heap.size rfl (.tmp 58) (.tmp 60) 23 29 (.agg #[(.int .i64 0), (.int .i64 0), (.int .i64 0), (.int .i64 0)]) 32 rfl Try.underlying23 info29 rfl (by decide) (by omega) (.slice A6 l0_1.length c6) l0_1 (⟨a1_0, a1_1, a1_2, a1_3⟩ : S29) [.int .i64 a1_0, .int .i64 a1_1, .int .i64 a1_2, .int .i64 a1_3] (fun k_ => k_ ≠ g4 ∧ k_ ≠ g9) (fun _ => False) rfl rfl ?aP (fun _ hk => hk.elim) ?aF ?aO ?aB ?aS ?aL ?_; (case aP => exact k29_mkM _ _ _ (⟨a1_0, a1_1, a1_2, a1_3⟩ : S29)); (case aF => exact (fun k hk => ⟨by have := blk_lt H49.out; omega, by have := blk_lt H99.out; omega⟩)); (case aO => exact (Kd.R_lower (Kd.R_mono HO9.out (fun k hk => ⟨by have := HL4.out; have := hk.1; omega, by have := HG9.out; have := hk.2; omega⟩)) HBc.out.size)); (case aB => exact HB9.out); (case aS => exact HB9.out.size); (case aL => have := HLL.out; omega); intro v10 w10 ho10 hb10 hg10 hat10; obtain ⟨A10, n10, c10, e10⟩ : ∃ A n c, v10 = Value.slice A n c := ⟨_, _, _, (Kd.R_slice ho10).choose_spec.choose_spec⟩; subst e10; have HO10 := Aside0.mk ho10; have HB10 := Aside0.mk hb10; have H410 := Aside0.mk ((hg10.block g4 (blk_lt H49.out) (fun e => by have := (HO9.out.1 g4 e.symm).1; have := HL4.out; omega)).trans H49.out); have H910 := Aside0.mk ((hg10.block g9 (blk_lt H99.out) (fun e => by have := (HO9.out.1 g9 e.symm).2; have := HG9.out; omega)).trans H99.out); have o0 := (blk_cell H910.out 0).trans rfl; have o1 := (blk_cell H910.out 1).trans rfl; have o2 := blk_frozen H910.out 0; have o3 := blk_frozen H910.out 1; have u0 := (blk_cell H410.out 0).trans rfl; have u1 := (blk_cell H410.out 1).trans rfl; have u2_ := blk_frozen H410.out 0; have u3_ := blk_frozen H410.out 1; have hn49 := HN49.out; have hn94 := HN49.out.symm; clear ho10 hb10 hg10 hat10))
              refine bodyPost_ret (results_ctt rfl _ _ g4 25 #[.int .i64 a0_0, .slice A10 n10 c10] (0, 0) _ rfl (blk_put (blk_put (blk_far H410.out hn49 _) 0 _ rfl) 1 _ rfl) Try.underlying25 rfl (by kernel_rfl)) rfl ?_
              have hw6 := HB6.out.size
              have hg9 := HG9.out
              refine ⟨_, rfl, Kd.R_mono (Kd.R_move HO10.out (fun k hk => (Below.heap_setCell _ _ _ _ hk.1).trans ((Below.heap_setCell _ _ _ _ hk.1).trans (Below.heap_setCell _ _ _ _ hk.2)))) (fun _ _ => trivial), ((HB10.out.setCell (p := ⟨g9, 1, none⟩) (by show w.heap.size ≤ g9; omega) _).setCell (p := ⟨g4, 0, none⟩) HG4.out _).setCell (p := ⟨g4, 1, none⟩) HG4.out _⟩
    · rw [if_neg c1] at h
      simp only [Option.some.injEq, Prod.mk.injEq] at h
      obtain ⟨rfl, rfl, rfl, rfl⟩ := h
      have d0 : (e1 == 0) = false := beq_eq_false_iff_ne.mpr c1
      have d1 : (e1 != 0) = true := bne_iff_ne.mpr c1
      clear c1
      go_enter Try.func52, Try.ntmps52
      go_upto_region 5 with (first | ((with_reducible refine gate_dst (N := 2) rfl ?_); refine box_event ?hg (N := 2) ?hd (cs := #[.int .i64 a0_0, .slice A0_1 l0_1.length c0_1]) (t := 25) ?hr ?_; (case hd => rfl); (case hg => rfl); (case hr => first | (go_simp; done) | (go_simp; rfl)); intro gt hg_ w1 hx_ hb_; have HB1 := Aside0.mk hb_; have HX1 := Aside0.mk hx_; have HGT := Aside0.mk (show w.heap.size ≤ gt by rw [hg_]; exact Nat.le_refl _); clear hg_ hb_ hx_) | ((with_reducible refine gate_dst (N := 3) rfl ?_); refine box_event ?hg (N := 3) ?hd (cs := #[.int .i64 a1_0, .int .i64 a1_1, .int .i64 a1_2, .int .i64 a1_3]) (t := 29) ?hr ?_; (case hd => rfl); (case hg => rfl); (case hr => first | (go_simp; done) | (go_simp; rfl)); intro gc hg_ w2 hx_ hb_; have HB2 := Aside0.mk (below_then HB1.out HB1.out.size hb_); have HC2 := Aside0.mk hx_; have HX2 := Aside0.mk (blk_below HX1.out hb_); clear hg_ hb_ hx_) | ((with_reducible refine gate_dst (N := 4) rfl ?_); refine box_event ?hg (N := 4) ?hd (cs := #[.int .i64 0, .slice none 0 0]) (t := 25) ?hr ?_; (case hd => rfl); (case hg => rfl); (case hr => first | (go_simp; done) | (go_simp; rfl)); intro g4 hg_ w3 hx_ hb_; have HB3 := Aside0.mk (below_then HB2.out HB2.out.size hb_); have HG4 := Aside0.mk (show w.heap.size ≤ g4 by rw [hg_]; exact HB2.out.size); have H43 := Aside0.mk hx_; have HC3 := Aside0.mk (blk_below HC2.out hb_); have HX3 := Aside0.mk (blk_below HX2.out hb_); have r0 := (blk_cell HX3.out 0).trans rfl; have rb := (blk_cell HX3.out 1).trans rfl; clear hg_ hb_ hx_) | (go_at_call 129; refine (table_valid.calls a0_0 A0_1 c0_1 l0_1 _ _ (Kd.C_below HC.out HB3.out) hc0_1 HE.out).mono ?_; rintro e w4 ⟨rfl, hb_⟩; have HB4 := Aside0.mk (below_then HB3.out HB3.out.size hb_); have HX4 := Aside0.mk (blk_below HX3.out hb_); have HC4 := Aside0.mk (blk_below HC3.out hb_); have H44 := Aside0.mk (blk_below H43.out hb_); have c0 := (blk_cell HC4.out 0).trans rfl; have c1 := (blk_cell HC4.out 1).trans rfl; have c2 := (blk_cell HC4.out 2).trans rfl; have c3 := (blk_cell HC4.out 3).trans rfl; have s0 := (blk_cell HX4.out 0).trans rfl; have s1 := (blk_cell HX4.out 1).trans rfl; clear hb_) | (go_at_call 139; refine (call_Check.calls 3 _ _ _ _ _ _ HE1.out).mono ?_; rintro e w5 ⟨rfl, hb_⟩; have HB5 := Aside0.mk (below_then HB4.out HB4.out.size hb_); have HX5 := Aside0.mk (blk_below HX4.out hb_); have HC5 := Aside0.mk (blk_below HC4.out hb_); have H45 := Aside0.mk (blk_below H44.out hb_); have k0 := (blk_cell HC5.out 0).trans rfl; have k1 := (blk_cell HC5.out 1).trans rfl; have k2 := (blk_cell HC5.out 2).trans rfl; have k3 := (blk_cell HC5.out 3).trans rfl; have t0 := (blk_cell HX5.out 0).trans rfl; have t1 := (blk_cell HX5.out 1).trans rfl; clear hb_))
      have hmx : Try.prog.follows .mixedOrders = true := by kernel_rfl
      have y0 := (blk_cell H45.out 0).trans rfl
      have y1 := (blk_cell H45.out 1).trans rfl
      have y2 := blk_frozen H45.out 0
      have y3 := blk_frozen H45.out 1
      go_region
      all_goals go_wp2
      refine bodyPost_ret (results_ctt rfl _ _ g4 25 #[.int .i64 0, .slice none 0 0] (0, 0) _ rfl (blk_put (blk_put (blk_drew H45.out) 0 _ rfl) 1 _ rfl) Try.underlying25 rfl (by kernel_rfl)) rfl ?_
      exact ⟨_, rfl, Kd.R_nil _ _ _ _ _, ((below_drew1 HB5.out).setCell (p := ⟨g4, 0, none⟩) HG4.out _).setCell (p := ⟨g4, 1, none⟩) HG4.out _⟩
  · rw [if_neg c0] at h
    simp only [Option.some.injEq, Prod.mk.injEq] at h
    obtain ⟨rfl, rfl, rfl, rfl⟩ := h
    have d0 : (e0 == 0) = false := beq_eq_false_iff_ne.mpr c0
    have d1 : (e0 != 0) = true := bne_iff_ne.mpr c0
    clear c0
    go_enter Try.func52, Try.ntmps52
    go_upto_region 5 with (first | ((with_reducible refine gate_dst (N := 2) rfl ?_); refine box_event ?hg (N := 2) ?hd (cs := #[.int .i64 a0_0, .slice A0_1 l0_1.length c0_1]) (t := 25) ?hr ?_; (case hd => rfl); (case hg => rfl); (case hr => first | (go_simp; done) | (go_simp; rfl)); intro gt hg_ w1 hx_ hb_; have HB1 := Aside0.mk hb_; have HX1 := Aside0.mk hx_; have HGT := Aside0.mk (show w.heap.size ≤ gt by rw [hg_]; exact Nat.le_refl _); clear hg_ hb_ hx_) | ((with_reducible refine gate_dst (N := 3) rfl ?_); refine box_event ?hg (N := 3) ?hd (cs := #[.int .i64 a1_0, .int .i64 a1_1, .int .i64 a1_2, .int .i64 a1_3]) (t := 29) ?hr ?_; (case hd => rfl); (case hg => rfl); (case hr => first | (go_simp; done) | (go_simp; rfl)); intro gc hg_ w2 hx_ hb_; have HB2 := Aside0.mk (below_then HB1.out HB1.out.size hb_); have HC2 := Aside0.mk hx_; have HX2 := Aside0.mk (blk_below HX1.out hb_); clear hg_ hb_ hx_) | ((with_reducible refine gate_dst (N := 4) rfl ?_); refine box_event ?hg (N := 4) ?hd (cs := #[.int .i64 0, .slice none 0 0]) (t := 25) ?hr ?_; (case hd => rfl); (case hg => rfl); (case hr => first | (go_simp; done) | (go_simp; rfl)); intro g4 hg_ w3 hx_ hb_; have HB3 := Aside0.mk (below_then HB2.out HB2.out.size hb_); have HG4 := Aside0.mk (show w.heap.size ≤ g4 by rw [hg_]; exact HB2.out.size); have H43 := Aside0.mk hx_; have HC3 := Aside0.mk (blk_below HC2.out hb_); have HX3 := Aside0.mk (blk_below HX2.out hb_); have r0 := (blk_cell HX3.out 0).trans rfl; have rb := (blk_cell HX3.out 1).trans rfl; clear hg_ hb_ hx_) | (go_at_call 129; refine (table_valid.calls a0_0 A0_1 c0_1 l0_1 _ _ (Kd.C_below HC.out HB3.out) hc0_1 HE.out).mono ?_; rintro e w4 ⟨rfl, hb_⟩; have HB4 := Aside0.mk (below_then HB3.out HB3.out.size hb_); have HX4 := Aside0.mk (blk_below HX3.out hb_); have HC4 := Aside0.mk (blk_below HC3.out hb_); have H44 := Aside0.mk (blk_below H43.out hb_); have c0 := (blk_cell HC4.out 0).trans rfl; have c1 := (blk_cell HC4.out 1).trans rfl; have c2 := (blk_cell HC4.out 2).trans rfl; have c3 := (blk_cell HC4.out 3).trans rfl; have s0 := (blk_cell HX4.out 0).trans rfl; have s1 := (blk_cell HX4.out 1).trans rfl; clear hb_))
    have hmx : Try.prog.follows .mixedOrders = true := by kernel_rfl
    have y0 := (blk_cell H44.out 0).trans rfl
    have y1 := (blk_cell H44.out 1).trans rfl
    have y2 := blk_frozen H44.out 0
    have y3 := blk_frozen H44.out 1
    go_region
    all_goals go_wp2
    refine bodyPost_ret (results_ctt rfl _ _ g4 25 #[.int .i64 0, .slice none 0 0] (0, 0) _ rfl (blk_put (blk_put (blk_drew H44.out) 0 _ rfl) 1 _ rfl) Try.underlying25 rfl (by kernel_rfl)) rfl ?_
    exact ⟨_, rfl, Kd.R_nil _ _ _ _ _, ((below_drew1 HB4.out).setCell (p := ⟨g4, 0, none⟩) HG4.out _).setCell (p := ⟨g4, 1, none⟩) HG4.out _⟩

end Go.Proofs.Ytmfbpkjhabdcgaa.F
end
section
-- Written by fork.py (this session's program over the kit's print.py). Not trusted: Lean checks it.
namespace Go.Proofs.Ytmfbpkjhabdcgaa.F
open Go.RowKit Go.Proofs.YtmfbpkjhabdcgaaW.PrintWords Go.Proofs.YtmfbpkjhabdcgaaW.PrintLast Go.Proofs.YtmfbpkjhabdcgaaW.PrintMore
attribute [local go_sem] max2_int min2_int max_two min_two max_three min_three max_four min_four
set_option linter.unusedVariables false
set_option linter.unusedSimpArgs false

/-! ### K_SameTable: function 37 -/
def K_SameTable.f (k : Nat) (a0_0 : Int) (l0_1 : List (S29)) (a1_0 : Int) (l1_1 : List (S29)) : Option (Bool) := if a0_0 = a1_0 then ((K_SameCallsIn.f k l0_1 l1_1).bind fun t153 => (some t153)) else (some false)
theorem K_SameTable.mono : ∀ a0 a1 a2 a3 k, LeO (K_SameTable.f k a0 a1 a2 a3) (K_SameTable.f (k + 1) a0 a1 a2 a3) := by
  intro a0 a1 a2 a3 k
  unfold K_SameTable.f
  repeat' first
      | (with_reducible exact K_SameCallsIn.mono _ _ _)
      | (with_reducible exact LeO.refl _)
      | (with_reducible exact LeO.none _)
      | (with_reducible refine LeO.ite ?_ ?_)
      | (with_reducible refine LeO.bind ?_ (fun _ => ?_))
      | exact K_SameCallsIn.mono _ _ _
      | exact LeO.none _
      | refine LeO.ite ?_ ?_
      | refine LeO.bind ?_ (fun _ => ?_)
set_option maxHeartbeats 8000000 in
set_option maxRecDepth 100000 in
theorem K_SameTable.calls (k : Nat) (a0_0 : Int) (A0_1 : Option Addr) (c0_1 : Nat) (l0_1 : List (S29)) (a1_0 : Int) (A1_1 : Option Addr) (c1_1 : Nat) (l1_1 : List (S29)) (r : Bool) (w : World) (hr0_1 : Kd.C k29 w A0_1 l0_1.length l0_1) (hc0_1 : l0_1.length ≤ c0_1) (hr1_1 : Kd.C k29 w A1_1 l1_1.length l1_1) (hc1_1 : l1_1.length ≤ c1_1) (h : K_SameTable.f k a0_0 l0_1 a1_0 l1_1 = some r) :
    Calls Try.prog 37 #[.agg #[.int .i64 a0_0, .slice A0_1 l0_1.length c0_1], .agg #[.int .i64 a1_0, .slice A1_1 l1_1.length c1_1]] w fun e w' => e = .returned (.bool r) ∧ Below w.heap.size w w' := by
  have hu25 := Try.underlying25
  have HR0_1 := Aside0.mk hr0_1
  have HC0_1 := Aside0.mk hc0_1
  clear hr0_1 hc0_1
  have HR1_1 := Aside0.mk hr1_1
  have HC1_1 := Aside0.mk hc1_1
  clear hr1_1 hc1_1
  have HB := Aside0.mk (Below.refl w.heap.size w)
  have H : (if a0_0 = a1_0 then ((K_SameCallsIn.f k l0_1 l1_1).bind fun t153 => (some t153)) else (some false)) = some r := h
  clear h
  by_cases c3 : a0_0 = a1_0
  · rw [if_pos c3] at H
    have c3b0 : (a0_0 == a1_0) = true := beq_iff_eq.mpr c3
    have c3b1 : (a0_0 != a1_0) = false := bne_eq_false_iff_eq.mpr c3
    clear c3
    replace H := Option.bind_eq_some_iff.mp H
    obtain ⟨t153, A40, H⟩ := H
    replace H : (some t153) = some r := H
    have A4 := Aside0.mk A40
    clear A40
    obtain rfl := Option.some.inj H
    go_enter Try.func37, Try.ntmps37
    go_wp2_with (first | ((with_reducible refine gate_dst (N := 2) rfl ?_); refine box_event ?hg (N := 2) ?hd (cs := #[.int .i64 a0_0, .slice A0_1 l0_1.length c0_1]) (t := 25) ?hr ?_; (case hd => rfl); (case hg => rfl); (case hr => first | (go_simp; done) | (go_simp; rfl)); intro gb151 hg w5 hbox hb; have n0_ := Aside0.mk (below_step (by repeat (first | (with_reducible first | exact HB.out | apply below_alloc | apply pw_below_drewN | apply below_drew1) | exact HB.out)) hb); have n1_ := Aside0.mk (hbox); have n2_ := Aside0.mk ((by rw [hg]; exact (below_size (by repeat (first | (with_reducible first | exact HB.out | apply below_alloc | apply pw_below_drewN | apply below_drew1) | exact HB.out))) : w.heap.size ≤ gb151)); have n3_ := Aside0.mk ((by rw [hg]; exact (below_size (by repeat (first | (with_reducible first | exact HB.out | apply below_alloc | apply pw_below_drewN | apply below_drew1) | exact HB.out))) : w.heap.size ≤ gb151)); clear HB; have HB := n0_; have BK151 := n1_; have GW151 := n2_; have GE151 := n3_; clear n0_ n1_ n2_ n3_; clear hb hbox hg) | ((with_reducible refine gate_dst (N := 3) rfl ?_); refine box_event ?hg (N := 3) ?hd (cs := #[.int .i64 a1_0, .slice A1_1 l1_1.length c1_1]) (t := 25) ?hr ?_; (case hd => rfl); (case hg => rfl); (case hr => first | (go_simp; done) | (go_simp; rfl)); intro gb152 hg w6 hbox hb; have n0_ := Aside0.mk (blk_below (g := gb151) (o := .cells #[.int .i64 a0_0, .slice A0_1 l0_1.length c0_1] 25 (0, 0)) (by (with_reducible repeat (first | refine blk_drewN ?_ _ | refine blk_drew ?_ | refine blk_alloc ?_ _)); exact BK151.out) hb); have n1_ := Aside0.mk (below_step (by repeat (first | (with_reducible first | exact HB.out | apply below_alloc | apply pw_below_drewN | apply below_drew1 | refine below_set ?_ GE151.out) | exact HB.out)) hb); have n2_ := Aside0.mk (hbox); have n3_ := Aside0.mk ((by rw [hg]; exact (below_size (by repeat (first | (with_reducible first | exact HB.out | apply below_alloc | apply pw_below_drewN | apply below_drew1 | refine below_set ?_ GE151.out) | exact HB.out))) : w.heap.size ≤ gb152)); have n4_ := Aside0.mk ((by rw [hg]; exact (below_size (by repeat (first | (with_reducible first | exact HB.out | apply below_alloc | apply pw_below_drewN | apply below_drew1 | refine below_set ?_ GE151.out) | exact HB.out))) : w.heap.size ≤ gb152)); have n5_ := Aside0.mk ((by rw [hg]; exact Nat.ne_of_lt (blk_lt (g := gb151) (o := .cells #[.int .i64 a0_0, .slice A0_1 l0_1.length c0_1] 25 (0, 0)) (by (with_reducible repeat (first | refine blk_drewN ?_ _ | refine blk_drew ?_ | refine blk_alloc ?_ _)); exact BK151.out)) : gb151 ≠ gb152)); have n6_ := Aside0.mk ((by rw [hg]; exact Nat.ne_of_gt (blk_lt (g := gb151) (o := .cells #[.int .i64 a0_0, .slice A0_1 l0_1.length c0_1] 25 (0, 0)) (by (with_reducible repeat (first | refine blk_drewN ?_ _ | refine blk_drew ?_ | refine blk_alloc ?_ _)); exact BK151.out)) : gb152 ≠ gb151)); clear BK151; clear HB; have BK151 := n0_; have HB := n1_; have BK152 := n2_; have GW152 := n3_; have GE152 := n4_; have NB151_152 := n5_; have NB152_151 := n6_; clear n0_ n1_ n2_ n3_ n4_ n5_ n6_; clear hb hbox hg; have hnb7 := NB151_152.out; have hnc7 := NB152_151.out; have hcz8_0 : w6.cell? ⟨gb151, 0, none⟩ = some (.int .i64 a0_0) := (blk_cell BK151.out 0).trans rfl; have hcz8_1 : w6.cell? ⟨gb151, 1, none⟩ = some (.slice A0_1 l0_1.length c0_1) := (blk_cell BK151.out 1).trans rfl; have hfz8_0 := blk_frozen BK151.out 0; have hfz8_1 := blk_frozen BK151.out 1; have hcz9_0 : w6.cell? ⟨gb152, 0, none⟩ = some (.int .i64 a1_0) := (blk_cell BK152.out 0).trans rfl; have hcz9_1 : w6.cell? ⟨gb152, 1, none⟩ = some (.slice A1_1 l1_1.length c1_1) := (blk_cell BK152.out 1).trans rfl; have hfz9_0 := blk_frozen BK152.out 0; have hfz9_1 := blk_frozen BK152.out 1) | ((with_reducible refine gate_callee (f := 33) rfl ?_); (with_reducible refine gate_dst (N := 15) rfl ?_); refine gate_guard (by rfl) ?_; dsimp only; refine goesL_ (some 15) rfl rfl Try.func33 (by kernel_rfl) rfl #[.slice A0_1 l0_1.length c0_1, .slice A1_1 l1_1.length c1_1] rfl (by (try simp only [List.map_toArray, List.map_cons, List.map_nil]); first | done | rfl | (simp only [List.length_drop, List.length_take]; rfl)) ?_; (with_reducible refine (K_SameCallsIn.calls k _ _ l0_1 _ _ l1_1 t153 _ ?side1 ?side2 ?side3 ?side4 A4.out).mono ?_); (case side1 => repeat (first | exact (Kd.C_below HR0_1.out HB.out) | (with_reducible refine Kd.C_alloc ?_ _) | (with_reducible refine Kd.C_drewN ?_ _) | (with_reducible refine Kd.C_drew ?_))); (case side2 => exact HC0_1.out); (case side3 => repeat (first | exact (Kd.C_below HR1_1.out HB.out) | (with_reducible refine Kd.C_alloc ?_ _) | (with_reducible refine Kd.C_drewN ?_ _) | (with_reducible refine Kd.C_drew ?_))); (case side4 => exact HC1_1.out); rintro e w' ⟨rfl, ⟨nd, rfl⟩⟩; refine ⟨_, rfl, ?_⟩))
    all_goals go_ret
    all_goals exact ⟨by first | rfl | (simp [errW_none, errW_some] <;> rfl) | (simp [*, errW_none, errW_some] <;> rfl), by repeat (first | (with_reducible first | exact HB.out | apply below_alloc | apply pw_below_drewN | apply below_drew1 | refine below_set ?_ GE151.out | refine below_set ?_ GE152.out) | exact HB.out)⟩
  · rw [if_neg c3] at H
    have c3b0 : (a0_0 == a1_0) = false := beq_eq_false_iff_ne.mpr c3
    have c3b1 : (a0_0 != a1_0) = true := bne_iff_ne.mpr c3
    obtain rfl := Option.some.inj H
    go_enter Try.func37, Try.ntmps37
    go_wp2_with (first | ((with_reducible refine gate_dst (N := 2) rfl ?_); refine box_event ?hg (N := 2) ?hd (cs := #[.int .i64 a0_0, .slice A0_1 l0_1.length c0_1]) (t := 25) ?hr ?_; (case hd => rfl); (case hg => rfl); (case hr => first | (go_simp; done) | (go_simp; rfl)); intro gb151 hg w10 hbox hb; have n0_ := Aside0.mk (below_step (by repeat (first | (with_reducible first | exact HB.out | apply below_alloc | apply pw_below_drewN | apply below_drew1) | exact HB.out)) hb); have n1_ := Aside0.mk (hbox); have n2_ := Aside0.mk ((by rw [hg]; exact (below_size (by repeat (first | (with_reducible first | exact HB.out | apply below_alloc | apply pw_below_drewN | apply below_drew1) | exact HB.out))) : w.heap.size ≤ gb151)); have n3_ := Aside0.mk ((by rw [hg]; exact (below_size (by repeat (first | (with_reducible first | exact HB.out | apply below_alloc | apply pw_below_drewN | apply below_drew1) | exact HB.out))) : w.heap.size ≤ gb151)); clear HB; have HB := n0_; have BK151 := n1_; have GW151 := n2_; have GE151 := n3_; clear n0_ n1_ n2_ n3_; clear hb hbox hg) | ((with_reducible refine gate_dst (N := 3) rfl ?_); refine box_event ?hg (N := 3) ?hd (cs := #[.int .i64 a1_0, .slice A1_1 l1_1.length c1_1]) (t := 25) ?hr ?_; (case hd => rfl); (case hg => rfl); (case hr => first | (go_simp; done) | (go_simp; rfl)); intro gb152 hg w11 hbox hb; have n0_ := Aside0.mk (blk_below (g := gb151) (o := .cells #[.int .i64 a0_0, .slice A0_1 l0_1.length c0_1] 25 (0, 0)) (by (with_reducible repeat (first | refine blk_drewN ?_ _ | refine blk_drew ?_ | refine blk_alloc ?_ _)); exact BK151.out) hb); have n1_ := Aside0.mk (below_step (by repeat (first | (with_reducible first | exact HB.out | apply below_alloc | apply pw_below_drewN | apply below_drew1 | refine below_set ?_ GE151.out) | exact HB.out)) hb); have n2_ := Aside0.mk (hbox); have n3_ := Aside0.mk ((by rw [hg]; exact (below_size (by repeat (first | (with_reducible first | exact HB.out | apply below_alloc | apply pw_below_drewN | apply below_drew1 | refine below_set ?_ GE151.out) | exact HB.out))) : w.heap.size ≤ gb152)); have n4_ := Aside0.mk ((by rw [hg]; exact (below_size (by repeat (first | (with_reducible first | exact HB.out | apply below_alloc | apply pw_below_drewN | apply below_drew1 | refine below_set ?_ GE151.out) | exact HB.out))) : w.heap.size ≤ gb152)); have n5_ := Aside0.mk ((by rw [hg]; exact Nat.ne_of_lt (blk_lt (g := gb151) (o := .cells #[.int .i64 a0_0, .slice A0_1 l0_1.length c0_1] 25 (0, 0)) (by (with_reducible repeat (first | refine blk_drewN ?_ _ | refine blk_drew ?_ | refine blk_alloc ?_ _)); exact BK151.out)) : gb151 ≠ gb152)); have n6_ := Aside0.mk ((by rw [hg]; exact Nat.ne_of_gt (blk_lt (g := gb151) (o := .cells #[.int .i64 a0_0, .slice A0_1 l0_1.length c0_1] 25 (0, 0)) (by (with_reducible repeat (first | refine blk_drewN ?_ _ | refine blk_drew ?_ | refine blk_alloc ?_ _)); exact BK151.out)) : gb152 ≠ gb151)); clear BK151; clear HB; have BK151 := n0_; have HB := n1_; have BK152 := n2_; have GW152 := n3_; have GE152 := n4_; have NB151_152 := n5_; have NB152_151 := n6_; clear n0_ n1_ n2_ n3_ n4_ n5_ n6_; clear hb hbox hg; have hnb12 := NB151_152.out; have hnc12 := NB152_151.out; have hcz13_0 : w11.cell? ⟨gb151, 0, none⟩ = some (.int .i64 a0_0) := (blk_cell BK151.out 0).trans rfl; have hcz13_1 : w11.cell? ⟨gb151, 1, none⟩ = some (.slice A0_1 l0_1.length c0_1) := (blk_cell BK151.out 1).trans rfl; have hfz13_0 := blk_frozen BK151.out 0; have hfz13_1 := blk_frozen BK151.out 1; have hcz14_0 : w11.cell? ⟨gb152, 0, none⟩ = some (.int .i64 a1_0) := (blk_cell BK152.out 0).trans rfl; have hcz14_1 : w11.cell? ⟨gb152, 1, none⟩ = some (.slice A1_1 l1_1.length c1_1) := (blk_cell BK152.out 1).trans rfl; have hfz14_0 := blk_frozen BK152.out 0; have hfz14_1 := blk_frozen BK152.out 1))
    all_goals go_ret
    all_goals exact ⟨by first | rfl | (simp [errW_none, errW_some] <;> rfl) | (simp [*, errW_none, errW_some] <;> rfl), by repeat (first | (with_reducible first | exact HB.out | apply below_alloc | apply pw_below_drewN | apply below_drew1 | refine below_set ?_ GE151.out | refine below_set ?_ GE152.out) | exact HB.out)⟩


end Go.Proofs.Ytmfbpkjhabdcgaa.F
end

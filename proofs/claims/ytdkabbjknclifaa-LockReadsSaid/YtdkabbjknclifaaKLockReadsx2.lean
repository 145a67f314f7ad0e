/- Part 2 of LockReads: what the functions reckon, step by step, and plain laws. No condition. -/
import Derived.Test.YtdkabbjknclifaaKLockReadsx1
section
namespace Go.Proofs.Ytdkabbjknclifaa.F
open Go.RowKit Go.Shelf Go.Proofs.YtdkabbjknclifaaW.PrintWords Go.Proofs.YtdkabbjknclifaaW.PrintLast Go.Proofs.YtdkabbjknclifaaW.PrintMore
attribute [local go_sem] Oper.semAt_some Instr.field asAgg
set_option linter.unusedVariables false
set_option linter.unusedSimpArgs false
set_option maxHeartbeats 4000000 in
set_option maxRecDepth 100000 in
theorem lock_Parse.calls (a0 : ByteArray) (r1 : Bool) (r2 : List Bool) (r3 : Int) (r4 : Int) (w : World) (h : lock_Parse.f a0 = some (r1, r2, r3, r4)) :
    Calls Try.prog 11 #[.string a0] w fun e w' => ∃ v1_ : Value, e = .returned (.tuple #[.agg #[.bool r1, v1_], .agg #[.int .i64 r3, .int .i64 r4]]) ∧ Kd.R Kd.bool 4 w' w.heap.size (fun _ => True) v1_ r2 ∧ Below w.heap.size w w' := by
  have hu25 := Try.underlying25
  have hu28 := Try.underlying28
  have hu23 := Try.underlying23
  unfold lock_Parse.f at h
  by_cases hlen : a0.data.toList.length ≤ 100
  case neg => rw [if_neg hlen] at h; cases h
  rw [if_pos hlen] at h
  have hsz : a0.data.toList.length = a0.size := rfl
  have H := Aside0.mk h
  have HL := Aside0.mk hlen
  have HZ := Aside0.mk hsz
  clear h hlen hsz
  go_enter Try.func11, Try.ntmps11
  go_wp2
  go_loopw [] (fun wr => ∃ (i : Nat) (b : Bool) (acc : List Bool) (v : Value), i ≤ a0.size ∧ acc.length ≤ i ∧ Aside0 (PSt w wr b v a0 i) ∧ Aside0 (Kd.R Kd.bool 4 wr w.heap.size (fun _ => True) v acc) ∧ Aside0 (parseL (a0.data.toList.drop i) i b acc = parseL a0.data.toList 0 false [])) (fun wr => a0.size - wr.iterPos (w.heap.size + 3))
  case atStart =>
    refine ⟨0, false, [], .slice none 0 0, Nat.zero_le _, Nat.le_refl _, ⟨?_⟩, ⟨Kd.R_nil _ _ _ _ _⟩, ⟨rfl⟩⟩
    have e0 : (((w.alloc (Obj.cells #[Value.bool false, Value.slice none 0 0] 25)).alloc (Obj.cells #[Value.int IntKind.i64 0, Value.int IntKind.i64 0] 28)).alloc (Obj.cells #[Value.bool false, Value.slice none 0 0] 25)).heap.size = w.heap.size + 3 := by simp
    refine ⟨?_, ?_, ?_, ?_, ?_⟩
    · exact ((((Below.refl _ w).alloc (Nat.le_refl _) _).alloc (by simp) _).alloc (by simp; omega) _).alloc (by simp; omega) _
    · exact blk_alloc (blk_alloc (blk_alloc (blk_new w _) _) _) _
    · have h0 := blk_new (w.alloc (Obj.cells #[Value.bool false, Value.slice none 0 0] 25)) (Obj.cells #[Value.int IntKind.i64 0, Value.int IntKind.i64 0] 28)
      rw [World.size_alloc] at h0
      exact blk_alloc (blk_alloc h0 _) _
    · have h0 := blk_new ((w.alloc (Obj.cells #[Value.bool false, Value.slice none 0 0] 25)).alloc (Obj.cells #[Value.int IntKind.i64 0, Value.int IntKind.i64 0] 28)) (Obj.cells #[Value.bool false, Value.slice none 0 0] 25)
      rw [World.size_alloc, World.size_alloc] at h0
      exact blk_alloc h0 _
    · have h0 := World.alloc_heap_new (((w.alloc (Obj.cells #[Value.bool false, Value.slice none 0 0] 25)).alloc (Obj.cells #[Value.int IntKind.i64 0, Value.int IntKind.i64 0] 28)).alloc (Obj.cells #[Value.bool false, Value.slice none 0 0] 25)) (Obj.stringIter a0 0)
      rw [e0] at h0
      exact h0
  case round =>
    obtain ⟨i, b, acc, v, hi, hal, HP0, HR, HS⟩ := hrel
    have hit := HP0.out.2.2.2.2
    have hlz := HL.out
    rw [HZ.out] at hlz
    by_cases hlt : i < a0.size
    · obtain ⟨r, wd, hnx, hcase⟩ := next_rune wr _ a0 i hit hlt
      have HP := Aside0.mk (HP0.out.iter (i + wd))
      have HR1 := Aside0.mk (R_iter (p := i + wd) HP0.out HR.out)
      have hdrop : a0.data.toList.drop i = a0[i] :: a0.data.toList.drop (i + 1) := by
        rw [List.drop_eq_getElem_cons (by rw [HZ.out]; exact hlt)]; rfl
      obtain ⟨lc, hlc⟩ : ∃ lc, a0[i] = lc := ⟨_, rfl⟩
      rw [hlc] at hdrop hcase
      clear hlc
      obtain ⟨W1, hW1⟩ : ∃ W1, wr.iterAt (w.heap.size + 3) a0 (i + wd) = W1 := ⟨_, rfl⟩
      rw [hW1] at hnx HP HR1
      clear hit hW1
      obtain ⟨q0, q1, q2, q3⟩ := con_cells HP.out.2.1; obtain ⟨q4, q5, q6, q7⟩ := con_cells HP.out.2.2.1; obtain ⟨q8, q9, q10, q11⟩ := con_cells HP.out.2.2.2.1
      obtain ⟨A8, c8, e8⟩ := Kd.R_slice HR1.out
      subst e8
      have h120 : (r = 120) ↔ (lc = 120) := by
        constructor
        · intro e; rcases hcase with ⟨h1, _⟩ | h1
          · exact UInt8.toNat_inj.mp (by show lc.toNat = 120; omega)
          · omega
        · intro e; rcases hcase with ⟨h1, _⟩ | h1
          · rw [h1, e]; rfl
          · rw [e] at h1; exact absurd h1.2 (by decide)
      have h111 : (r = 111) ↔ (lc = 111) := by
        constructor
        · intro e; rcases hcase with ⟨h1, _⟩ | h1
          · exact UInt8.toNat_inj.mp (by show lc.toNat = 111; omega)
          · omega
        · intro e; rcases hcase with ⟨h1, _⟩ | h1
          · rw [h1, e]; rfl
          · rw [e] at h1; exact absurd h1.2 (by decide)
      have h124 : (r = 124) ↔ (lc = 124) := by
        constructor
        · intro e; rcases hcase with ⟨h1, _⟩ | h1
          · exact UInt8.toNat_inj.mp (by show lc.toNat = 124; omega)
          · omega
        · intro e; rcases hcase with ⟨h1, _⟩ | h1
          · rw [h1, e]; rfl
          · rw [e] at h1; exact absurd h1.2 (by decide)
      by_cases i0 : i = 0
      · have di0 : ((i : Int) == 0) = true := by simp [i0]
        have di1 : ((i : Int) == 1) = false := by simp [i0]
        have di2 : decide (1 < (i : Int)) = false := by simp [i0]
        by_cases c120 : r = 120
        · have e1 := h120.mp c120
          have d1 : (r == 120) = true := beq_iff_eq.mpr c120
          obtain rfl : wd = 1 := by rcases hcase with ⟨_, h1⟩ | h1 <;> omega
          have HS1 := Aside0.mk (show parseL (a0.data.toList.drop (i + 1)) (i + 1) true (acc) = parseL a0.data.toList 0 false [] by rw [← HS.out, hdrop]; simp [parseL, i0, e1])
          have I0 := Aside0.mk i0
          clear i0
          go_wp2
          go_roundw
          case rel => exact ⟨i + 1, true, acc, .slice A8 acc.length c8, hlt, by omega, ⟨HP.out.set0 true⟩, ⟨Kd.R_set HR1.out HP.out.2.2.2.1 (by decide) 0 _⟩, HS1⟩
          case measure =>
            have e1 := (HP.out.set0 true).2.2.2.2
            have e2 := HP0.out.2.2.2.2
            simp only [World.iterPos, e1, e2]
            omega
        · have d1 : (r == 120) = false := beq_eq_false_iff_ne.mpr c120
          have e1 : ¬ lc = 120 := fun e => c120 (h120.mpr e)
          by_cases c111 : r = 111
          · have e2 := h111.mp c111
            have d2 : (r == 111) = true := beq_iff_eq.mpr c111
            obtain rfl : wd = 1 := by rcases hcase with ⟨_, h1⟩ | h1 <;> omega
            have HS1 := Aside0.mk (show parseL (a0.data.toList.drop (i + 1)) (i + 1) false (acc) = parseL a0.data.toList 0 false [] by rw [← HS.out, hdrop]; simp [parseL, i0, e2])
            have I0 := Aside0.mk i0
            clear i0
            go_wp2
            go_roundw
            case rel => exact ⟨i + 1, false, acc, .slice A8 acc.length c8, hlt, by omega, ⟨HP.out.set0 false⟩, ⟨Kd.R_set HR1.out HP.out.2.2.2.1 (by decide) 0 _⟩, HS1⟩
            case measure =>
              have e1 := (HP.out.set0 false).2.2.2.2
              have e2 := HP0.out.2.2.2.2
              simp only [World.iterPos, e1, e2]
              omega
          · have d2 : (r == 111) = false := beq_eq_false_iff_ne.mpr c111
            have e2 : ¬ lc = 111 := fun e => c111 (h111.mpr e)
            have hl : parseL a0.data.toList 0 false [] = .inl i := by rw [← HS.out, hdrop]; simp [parseL, i0, e1, e2]
            have h := H.out
            rw [hl] at h
            simp only [Option.some.injEq, Prod.mk.injEq] at h
            obtain ⟨rfl, rfl, rfl, rfl⟩ := h
            have I0 := Aside0.mk i0
            clear i0
            go_wp2
            exact bodyPost_ret (results_cc rfl _ _ w.heap.size (w.heap.size + 1) 25 28 #[.bool false, .slice none 0 0] #[.int .i64 3, .int .i64 i] (0, 0) (0, 0) _ _ rfl (fin_cc HP.out.2.1 HP.out.2.2.1 _ _ _ _).1 hu25 rfl (by kernel_rfl) rfl (fin_cc HP.out.2.1 HP.out.2.2.1 _ _ _ _).2 hu28 rfl (by kernel_rfl)) rfl ⟨_, rfl, Kd.R_nil _ _ _ _ _, fin_below HP.out.1 _ _ _ _⟩
      · have di0 : ((i : Int) == 0) = false := beq_eq_false_iff_ne.mpr (by omega)
        by_cases i1 : i = 1
        · have di1 : ((i : Int) == 1) = true := by simp [i1]
          have di2 : decide (1 < (i : Int)) = false := by simp [i1]
          by_cases c124 : r = 124
          · have e1 := h124.mp c124
            subst c124
            obtain rfl : wd = 1 := by rcases hcase with ⟨_, h1⟩ | h1 <;> omega
            have HS1 := Aside0.mk (show parseL (a0.data.toList.drop (i + 1)) (i + 1) b (acc) = parseL a0.data.toList 0 false [] by rw [← HS.out, hdrop]; simp [parseL, i1, e1])
            have I1 := Aside0.mk i1
            clear i1
            go_wp2
            go_roundw
            case rel => exact ⟨i + 1, b, acc, .slice A8 acc.length c8, hlt, by omega, ⟨HP.out⟩, ⟨HR1.out⟩, HS1⟩
            case measure =>
              have e1 := (HP.out).2.2.2.2
              have e2 := HP0.out.2.2.2.2
              simp only [World.iterPos, e1, e2]
              omega
          · have d1 : (r == 124) = false := beq_eq_false_iff_ne.mpr c124
            have e1 : ¬ lc = 124 := fun e => c124 (h124.mpr e)
            by_cases c120 : r = 120
            · have d2 : (r == 120) = true := beq_iff_eq.mpr c120
              have hl : parseL a0.data.toList 0 false [] = .inl i := by rw [← HS.out, hdrop]; simp [parseL, i1, e1]
              have h := H.out
              rw [hl] at h
              simp only [Option.some.injEq, Prod.mk.injEq] at h
              obtain ⟨rfl, rfl, rfl, rfl⟩ := h
              have I1 := Aside0.mk i1
              clear i1
              go_wp2
              exact bodyPost_ret (results_cc rfl _ _ w.heap.size (w.heap.size + 1) 25 28 #[.bool false, .slice none 0 0] #[.int .i64 3, .int .i64 i] (0, 0) (0, 0) _ _ rfl (fin_cc HP.out.2.1 HP.out.2.2.1 _ _ _ _).1 hu25 rfl (by kernel_rfl) rfl (fin_cc HP.out.2.1 HP.out.2.2.1 _ _ _ _).2 hu28 rfl (by kernel_rfl)) rfl ⟨_, rfl, Kd.R_nil _ _ _ _ _, fin_below HP.out.1 _ _ _ _⟩
            · have d2 : (r == 120) = false := beq_eq_false_iff_ne.mpr c120
              by_cases c111 : r = 111
              · have d3 : (r == 111) = true := beq_iff_eq.mpr c111
                have hl : parseL a0.data.toList 0 false [] = .inl i := by rw [← HS.out, hdrop]; simp [parseL, i1, e1]
                have h := H.out
                rw [hl] at h
                simp only [Option.some.injEq, Prod.mk.injEq] at h
                obtain ⟨rfl, rfl, rfl, rfl⟩ := h
                have I1 := Aside0.mk i1
                clear i1
                go_wp2
                exact bodyPost_ret (results_cc rfl _ _ w.heap.size (w.heap.size + 1) 25 28 #[.bool false, .slice none 0 0] #[.int .i64 3, .int .i64 i] (0, 0) (0, 0) _ _ rfl (fin_cc HP.out.2.1 HP.out.2.2.1 _ _ _ _).1 hu25 rfl (by kernel_rfl) rfl (fin_cc HP.out.2.1 HP.out.2.2.1 _ _ _ _).2 hu28 rfl (by kernel_rfl)) rfl ⟨_, rfl, Kd.R_nil _ _ _ _ _, fin_below HP.out.1 _ _ _ _⟩
              · have d3 : (r == 111) = false := beq_eq_false_iff_ne.mpr c111
                have hl : parseL a0.data.toList 0 false [] = .inl i := by rw [← HS.out, hdrop]; simp [parseL, i1, e1]
                have h := H.out
                rw [hl] at h
                simp only [Option.some.injEq, Prod.mk.injEq] at h
                obtain ⟨rfl, rfl, rfl, rfl⟩ := h
                have I1 := Aside0.mk i1
                clear i1
                go_wp2
                exact bodyPost_ret (results_cc rfl _ _ w.heap.size (w.heap.size + 1) 25 28 #[.bool false, .slice none 0 0] #[.int .i64 3, .int .i64 i] (0, 0) (0, 0) _ _ rfl (fin_cc HP.out.2.1 HP.out.2.2.1 _ _ _ _).1 hu25 rfl (by kernel_rfl) rfl (fin_cc HP.out.2.1 HP.out.2.2.1 _ _ _ _).2 hu28 rfl (by kernel_rfl)) rfl ⟨_, rfl, Kd.R_nil _ _ _ _ _, fin_below HP.out.1 _ _ _ _⟩
        · have di1 : ((i : Int) == 1) = false := beq_eq_false_iff_ne.mpr (by omega)
          have di2 : decide (1 < (i : Int)) = true := decide_eq_true (by omega)
          have di2' : decide (1 < i) = true := decide_eq_true (by omega)
          by_cases c120 : r = 120
          · have e1 := h120.mp c120
            have d1 : (r == 120) = true := beq_iff_eq.mpr c120
            obtain rfl : wd = 1 := by rcases hcase with ⟨_, h1⟩ | h1 <;> omega
            have HS1 := Aside0.mk (show parseL (a0.data.toList.drop (i + 1)) (i + 1) b (acc ++ [true]) = parseL a0.data.toList 0 false [] by rw [← HS.out, hdrop]; simp [parseL, i0, i1, e1])
            go_wp2_with (at_builtin; refine Kd.R_append Kd.bool (w0 := w) w.heap.size rfl _ _ 23 4 (.bool false) 1 rfl Try.underlying23 info4 rfl (by decide) (by decide) (.slice A8 acc.length c8) acc true [.bool true] (fun _ => True) (fun _ => False) rfl rfl ?hp (fun _ h => h.elim) (fun _ _ => trivial) HR1.out HP.out.1 HP.out.1.size (by omega) ?_; (case hp => rfl); intro v1 w1 hRn hBn hgn _; obtain ⟨A9, c9, e9⟩ := Kd.R_slice hRn; subst e9; have HPN := Aside0.mk (HP.out.grown HR1.out hgn hBn); have HRN := Aside0.mk hRn; obtain ⟨z0, z1, z2, z3⟩ := con_cells HPN.out.2.2.2.1; clear hRn hBn hgn)
            go_roundw
            case rel => exact ⟨i + 1, b, acc ++ [true], .slice A9 (acc.length + 1) c9, hlt, by simp; omega, ⟨HPN.out.set1 (.slice A9 (acc.length + 1) c9)⟩, ⟨by have hq := Kd.R_set HRN.out HPN.out.2.2.2.1 (by decide) 1 (.slice A9 (acc.length + 1) c9); simpa using hq⟩, HS1⟩
            case measure =>
              have e1 := (HPN.out.set1 (.slice A9 (acc.length + 1) c9)).2.2.2.2
              have e2 := HP0.out.2.2.2.2
              simp only [World.iterPos, e1, e2]
              omega
          · have d1 : (r == 120) = false := beq_eq_false_iff_ne.mpr c120
            have e1 : ¬ lc = 120 := fun e => c120 (h120.mpr e)
            by_cases c111 : r = 111
            · have e2 := h111.mp c111
              have d2 : (r == 111) = true := beq_iff_eq.mpr c111
              obtain rfl : wd = 1 := by rcases hcase with ⟨_, h1⟩ | h1 <;> omega
              have HS1 := Aside0.mk (show parseL (a0.data.toList.drop (i + 1)) (i + 1) b (acc ++ [false]) = parseL a0.data.toList 0 false [] by rw [← HS.out, hdrop]; simp [parseL, i0, i1, e2])
              go_wp2_with (at_builtin; refine Kd.R_append Kd.bool (w0 := w) w.heap.size rfl _ _ 23 4 (.bool false) 1 rfl Try.underlying23 info4 rfl (by decide) (by decide) (.slice A8 acc.length c8) acc false [.bool false] (fun _ => True) (fun _ => False) rfl rfl ?hp (fun _ h => h.elim) (fun _ _ => trivial) HR1.out HP.out.1 HP.out.1.size (by omega) ?_; (case hp => rfl); intro v1 w1 hRn hBn hgn _; obtain ⟨A9, c9, e9⟩ := Kd.R_slice hRn; subst e9; have HPN := Aside0.mk (HP.out.grown HR1.out hgn hBn); have HRN := Aside0.mk hRn; obtain ⟨z0, z1, z2, z3⟩ := con_cells HPN.out.2.2.2.1; clear hRn hBn hgn)
              go_roundw
              case rel => exact ⟨i + 1, b, acc ++ [false], .slice A9 (acc.length + 1) c9, hlt, by simp; omega, ⟨HPN.out.set1 (.slice A9 (acc.length + 1) c9)⟩, ⟨by have hq := Kd.R_set HRN.out HPN.out.2.2.2.1 (by decide) 1 (.slice A9 (acc.length + 1) c9); simpa using hq⟩, HS1⟩
              case measure =>
                have e1 := (HPN.out.set1 (.slice A9 (acc.length + 1) c9)).2.2.2.2
                have e2 := HP0.out.2.2.2.2
                simp only [World.iterPos, e1, e2]
                omega
            · have d2 : (r == 111) = false := beq_eq_false_iff_ne.mpr c111
              have e2 : ¬ lc = 111 := fun e => c111 (h111.mpr e)
              have hl : parseL a0.data.toList 0 false [] = .inl i := by rw [← HS.out, hdrop]; simp [parseL, i0, i1, e1, e2]
              have h := H.out
              rw [hl] at h
              simp only [Option.some.injEq, Prod.mk.injEq] at h
              obtain ⟨rfl, rfl, rfl, rfl⟩ := h
              go_wp2
              exact bodyPost_ret (results_cc rfl _ _ w.heap.size (w.heap.size + 1) 25 28 #[.bool false, .slice none 0 0] #[.int .i64 3, .int .i64 i] (0, 0) (0, 0) _ _ rfl (fin_cc HP.out.2.1 HP.out.2.2.1 _ _ _ _).1 hu25 rfl (by kernel_rfl) rfl (fin_cc HP.out.2.1 HP.out.2.2.1 _ _ _ _).2 hu28 rfl (by kernel_rfl)) rfl ⟨_, rfl, Kd.R_nil _ _ _ _ _, fin_below HP.out.1 _ _ _ _⟩
    · obtain rfl : i = a0.size := by omega
      have hnx : ∀ ty, (Instr.next (.pointer (some ⟨w.heap.size + 3, 0, none⟩)) true ty).run Try.prog wr = _ := fun ty => Lib.run_next_end_at wr (w.heap.size + 3) a0 a0.size ty hit hlt
      have hl := HS.out
      rw [List.drop_of_length_le (by rw [HZ.out]; exact Nat.le_refl _), parseL] at hl
      have h := H.out
      rw [← hl] at h
      simp only [HZ.out] at h
      have HP := HP0
      obtain ⟨q0, q1, q2, q3⟩ := con_cells HP.out.2.1; obtain ⟨q4, q5, q6, q7⟩ := con_cells HP.out.2.2.1; obtain ⟨q8, q9, q10, q11⟩ := con_cells HP.out.2.2.2.1
      obtain ⟨A8, c8, e8⟩ := Kd.R_slice HR.out
      subst e8
      clear hl hit
      by_cases h2 : a0.size < 2
      · rw [if_pos h2] at h
        simp only [Option.some.injEq, Prod.mk.injEq] at h
        obtain ⟨rfl, rfl, rfl, rfl⟩ := h
        have d2 : decide ((a0.size : Int) < 2) = true := decide_eq_true (by omega)
        go_wp2
        exact bodyPost_ret (results_cc rfl _ _ w.heap.size (w.heap.size + 1) 25 28 #[.bool false, .slice none 0 0] #[.int .i64 3, .int .i64 a0.size] (0, 0) (0, 0) _ _ rfl (fin_cc HP.out.2.1 HP.out.2.2.1 _ _ _ _).1 hu25 rfl (by kernel_rfl) rfl (fin_cc HP.out.2.1 HP.out.2.2.1 _ _ _ _).2 hu28 rfl (by kernel_rfl)) rfl ⟨_, rfl, Kd.R_nil _ _ _ _ _, fin_below HP.out.1 _ _ _ _⟩
      · rw [if_neg h2] at h
        have d2 : decide ((a0.size : Int) < 2) = false := decide_eq_false (by omega)
        obtain ⟨e, he, h⟩ := Option.bind_eq_some_iff.mp h
        have HE := Aside0.mk he
        clear he
        by_cases c : e = 0
        · subst c
          rw [if_pos rfl] at h
          simp only [Option.some.injEq, Prod.mk.injEq] at h
          obtain ⟨rfl, rfl, rfl, rfl⟩ := h
          go_wp2_with (go_at_call 28; refine (lock_Check.calls 4096 b A8 c8 acc 0 _ ?hr ?hc HE.out).mono ?_; (case hr => exact (Kd.R_reads' HR.out).2.2); (case hc => exact (Kd.R_reads' HR.out).2.1); rintro e w1 ⟨rfl, hbw⟩; have HP2 := Aside0.mk (show Below w.heap.size w w1 ∧ _ ∧ _ ∧ _ from ⟨HP.out.1.trans (hbw.mono HP.out.1.size), blk_below HP.out.2.1 hbw, blk_below HP.out.2.2.1 hbw, blk_below HP.out.2.2.2.1 hbw⟩); have HR2 := Aside0.mk (Kd.R_below HR.out hbw); clear q0 q1 q2 q3 q4 q5 q6 q7 q8 q9 q10 q11 hbw; obtain ⟨q0, q1, q2, q3⟩ := con_cells HP2.out.2.1; obtain ⟨q4, q5, q6, q7⟩ := con_cells HP2.out.2.2.1; obtain ⟨q8, q9, q10, q11⟩ := con_cells HP2.out.2.2.2)
          have r1 := Kd.R_types (Kd.R_types HR2.out HP2.out.2.1 (by decide)) HP2.out.2.2.1 (by decide)
          have r2 := Kd.R_far (p := ⟨w.heap.size, 1, none⟩) (Kd.R_far (p := ⟨w.heap.size, 0, none⟩) r1 (fun _ hk => hk.1.2) (.bool b)) (fun _ hk => hk.1.2) (.slice A8 acc.length c8)
          have r3 := Kd.R_far (p := ⟨w.heap.size + 1, 1, none⟩) (Kd.R_far (p := ⟨w.heap.size + 1, 0, none⟩) r2 (fun _ hk => hk.2) (.int .i64 0)) (fun _ hk => hk.2) (.int .i64 0)
          exact bodyPost_ret (results_cc rfl _ _ w.heap.size (w.heap.size + 1) 25 28 #[.bool b, .slice A8 acc.length c8] #[.int .i64 0, .int .i64 0] (0, 0) (0, 0) _ _ rfl (fin_cc HP2.out.2.1 HP2.out.2.2.1 _ _ _ _).1 hu25 rfl (by kernel_rfl) rfl (fin_cc HP2.out.2.1 HP2.out.2.2.1 _ _ _ _).2 hu28 rfl (by kernel_rfl)) rfl ⟨_, rfl, Kd.R_mono r3 (fun _ _ => trivial), fin_below HP2.out.1 _ _ _ _⟩
        · rw [if_neg c] at h
          have cb : (e != 0) = true := bne_iff_ne.mpr c
          clear c
          simp only [Option.some.injEq, Prod.mk.injEq] at h
          obtain ⟨rfl, rfl, rfl, rfl⟩ := h
          go_wp2_with (go_at_call 28; refine (lock_Check.calls 4096 b A8 c8 acc e _ ?hr ?hc HE.out).mono ?_; (case hr => exact (Kd.R_reads' HR.out).2.2); (case hc => exact (Kd.R_reads' HR.out).2.1); rintro e w1 ⟨rfl, hbw⟩; have HP2 := Aside0.mk (show Below w.heap.size w w1 ∧ _ ∧ _ ∧ _ from ⟨HP.out.1.trans (hbw.mono HP.out.1.size), blk_below HP.out.2.1 hbw, blk_below HP.out.2.2.1 hbw, blk_below HP.out.2.2.2.1 hbw⟩); have HR2 := Aside0.mk (Kd.R_below HR.out hbw); clear q0 q1 q2 q3 q4 q5 q6 q7 q8 q9 q10 q11 hbw; obtain ⟨q0, q1, q2, q3⟩ := con_cells HP2.out.2.1; obtain ⟨q4, q5, q6, q7⟩ := con_cells HP2.out.2.2.1; obtain ⟨q8, q9, q10, q11⟩ := con_cells HP2.out.2.2.2)
          exact bodyPost_ret (results_cc rfl _ _ w.heap.size (w.heap.size + 1) 25 28 #[.bool false, .slice none 0 0] #[.int .i64 e, .int .i64 0] (0, 0) (0, 0) _ _ rfl (fin_cc HP2.out.2.1 HP2.out.2.2.1 _ _ _ _).1 hu25 rfl (by kernel_rfl) rfl (fin_cc HP2.out.2.1 HP2.out.2.2.1 _ _ _ _).2 hu28 rfl (by kernel_rfl)) rfl ⟨_, rfl, Kd.R_nil _ _ _ _ _, fin_below HP2.out.1 _ _ _ _⟩

end Go.Proofs.Ytdkabbjknclifaa.F
end
section
-- Written by fork.py (this session's program over the kit's print.py). Not trusted: Lean checks it.
namespace Go.Proofs.Ytdkabbjknclifaa.F
open Go.RowKit Go.Proofs.YtdkabbjknclifaaW.PrintWords Go.Proofs.YtdkabbjknclifaaW.PrintLast Go.Proofs.YtdkabbjknclifaaW.PrintMore
attribute [local go_sem] max2_int min2_int max_two min_two max_three min_three max_four min_four
set_option linter.unusedVariables false
set_option linter.unusedSimpArgs false

attribute [local go_sem high] eqA28
/-! ### L17_LockReads: function 3 -/
def L17_LockReads.f (k : Nat) (a0 : ByteArray) : Option (Bool) := if (a0.size : Int) > 100 then ((L17_awake.f).bind fun t162 => (some t162)) else ((lock_Parse.f a0).bind fun bt163 => ((R17_Parse.f k a0).bind fun bt171 => ((K_SameChain.f k bt163.1 bt163.2.1 bt171.1 bt171.2.1).bind fun t179 => (if t179 = true then (if (bt163.2.2.1 == bt171.2.2.1 && (bt163.2.2.2 == bt171.2.2.2)) = true then ((L17_awake.f).bind fun t180 => (some t180)) else (some false)) else (some false)))))
theorem L17_LockReads.mono : ∀ a0 k, LeO (L17_LockReads.f k a0) (L17_LockReads.f (k + 1) a0) := by
  intro a0 k
  unfold L17_LockReads.f
  repeat' first
      | (with_reducible exact K_SameChain.mono _ _ _ _ _)
      | (with_reducible exact R17_Parse.mono _ _)
      | (with_reducible exact LeO.refl _)
      | (with_reducible exact LeO.none _)
      | (with_reducible refine LeO.ite ?_ ?_)
      | (with_reducible refine LeO.bind ?_ (fun _ => ?_))
      | exact K_SameChain.mono _ _ _ _ _
      | exact R17_Parse.mono _ _
      | exact LeO.none _
      | refine LeO.ite ?_ ?_
      | refine LeO.bind ?_ (fun _ => ?_)
set_option maxHeartbeats 8000000 in
set_option maxRecDepth 100000 in
theorem L17_LockReads.calls (k : Nat) (a0 : ByteArray) (r : Bool) (w : World) (h : L17_LockReads.f k a0 = some r) (ht_ : r = true := by rfl) :
    Calls Try.prog 3 #[.string a0] w fun e w' => e = .returned (.bool r) ∧ Below w.heap.size w w' := by
  subst ht_
  have hu25 := Try.underlying25
  have hu28 := Try.underlying28
  have HB := Aside0.mk (Below.refl w.heap.size w)
  have H : (if (a0.size : Int) > 100 then ((L17_awake.f).bind fun t162 => (some t162)) else ((lock_Parse.f a0).bind fun bt163 => ((R17_Parse.f k a0).bind fun bt171 => ((K_SameChain.f k bt163.1 bt163.2.1 bt171.1 bt171.2.1).bind fun t179 => (if t179 = true then (if (bt163.2.2.1 == bt171.2.2.1 && (bt163.2.2.2 == bt171.2.2.2)) = true then ((L17_awake.f).bind fun t180 => (some t180)) else (some false)) else (some false)))))) = some true := h
  clear h
  by_cases c2 : (a0.size : Int) > 100
  · rw [if_pos c2] at H
    have c2b0 : decide (100 < (a0.size : Int)) = true := decide_eq_true c2
    have c2b1 : decide (100 < a0.size) = true := decide_eq_true (by omega)
    clear c2
    replace H := Option.bind_eq_some_iff.mp H
    obtain ⟨t162, A30, H⟩ := H
    replace H : (some t162) = some true := H
    have A3 := Aside0.mk A30
    clear A30
    have Ht_ := Option.some.inj H
    clear H
    subst Ht_
    have H : (some true : Option Bool) = some true := rfl
    clear H
    go_enter Try.func3, Try.ntmps3
    go_wp2_with (first | ((with_reducible refine gate_callee (f := 10) rfl ?_); refine goesL_ (some 10) rfl rfl Try.func10 (by kernel_rfl) rfl #[] rfl (by (try simp only [List.map_toArray, List.map_cons, List.map_nil]); first | done | rfl | (simp only [List.length_drop, List.length_take]; rfl)) ?_; (with_reducible refine (L17_awake.calls  true _ A3.out).mono ?_); rintro e w4 ⟨rfl, hb⟩; refine ⟨_, rfl, ?_⟩; have n0_ := Aside0.mk (below_step (by repeat (first | (with_reducible first | exact HB.out | apply below_alloc | apply pw_below_drewN | apply below_drew1) | exact HB.out)) hb); clear HB; have HB := n0_; clear n0_; (try clear hb); (try clear hb2); (try clear hk); (try clear hi)))
    all_goals go_ret
    all_goals exact ⟨by first | rfl | (simp [errW_none, errW_some] <;> rfl) | (simp [*, errW_none, errW_some] <;> rfl), by repeat (first | (with_reducible first | exact HB.out | apply below_alloc | apply pw_below_drewN | apply below_drew1) | exact HB.out)⟩
  · rw [if_neg c2] at H
    have c2b0 : decide (100 < (a0.size : Int)) = false := decide_eq_false c2
    have c2b1 : decide (100 < a0.size) = false := decide_eq_false (by omega)
    clear c2
    replace H := Option.bind_eq_some_iff.mp H
    obtain ⟨⟨t163, t164, t167, t168⟩, A50, H⟩ := H
    replace H : ((R17_Parse.f k a0).bind fun bt171 => ((K_SameChain.f k t163 t164 bt171.1 bt171.2.1).bind fun t179 => (if t179 = true then (if (t167 == bt171.2.2.1 && (t168 == bt171.2.2.2)) = true then ((L17_awake.f).bind fun t180 => (some t180)) else (some false)) else (some false)))) = some true := H
    have A5 := Aside0.mk A50
    clear A50
    replace H := Option.bind_eq_some_iff.mp H
    obtain ⟨⟨t171, t172, t175, t176⟩, A60, H⟩ := H
    replace H : ((K_SameChain.f k t163 t164 t171 t172).bind fun t179 => (if t179 = true then (if (t167 == t175 && (t168 == t176)) = true then ((L17_awake.f).bind fun t180 => (some t180)) else (some false)) else (some false))) = some true := H
    have A6 := Aside0.mk A60
    clear A60
    replace H := Option.bind_eq_some_iff.mp H
    obtain ⟨t179, A70, H⟩ := H
    replace H : (if t179 = true then (if (t167 == t175 && (t168 == t176)) = true then ((L17_awake.f).bind fun t180 => (some t180)) else (some false)) else (some false)) = some true := H
    have A7 := Aside0.mk A70
    clear A70
    by_cases c8 : t179 = true
    rotate_left
    · replace c8 := Bool.eq_false_iff.mpr c8
      subst c8
      have H1 : (some false) = some true := by rw [if_neg (show ¬ (false = true) by decide)] at H; exact H
      clear H
      have H := H1
      clear H1
      exact absurd H (by repeat (first | exact never_none | exact never_false | refine never_ite ?_ ?_ | refine never_bind (fun _ => ?_)))
    subst c8
    have H1 : (if (t167 == t175 && (t168 == t176)) = true then ((L17_awake.f).bind fun t180 => (some t180)) else (some false)) = some true := by rw [if_pos rfl] at H; exact H
    clear H
    have H := H1
    clear H1
    by_cases c9 : (t167 == t175 && (t168 == t176)) = true
    rotate_left
    · rw [if_neg c9] at H
      exact absurd H (by repeat (first | exact never_none | exact never_false | refine never_ite ?_ ?_ | refine never_bind (fun _ => ?_)))
    rw [if_pos c9] at H
    have c9b0 : (t167 == t175 && (t168 == t176)) = true := c9
    (try (have c9b1 : decide (t167 = t175 && (t168 == t176)) = true := by simpa using c9))
    (try (have c9b2 : (t167 == t175 && (t168 == t176)) = true := by simpa using c9))
    clear c9
    replace H := Option.bind_eq_some_iff.mp H
    obtain ⟨t180, A100, H⟩ := H
    replace H : (some t180) = some true := H
    have A10 := Aside0.mk A100
    clear A100
    have Ht_ := Option.some.inj H
    clear H
    subst Ht_
    have H : (some true : Option Bool) = some true := rfl
    clear H
    go_enter Try.func3, Try.ntmps3
    go_wp2_with (first | ((with_reducible refine gate_callee (f := 11) rfl ?_); refine goesL_ (some 13) rfl rfl Try.func11 (by kernel_rfl) rfl #[.string a0] rfl (by (try simp only [List.map_toArray, List.map_cons, List.map_nil]); first | done | rfl | (simp only [List.length_drop, List.length_take]; rfl)) ?_; (with_reducible refine (lock_Parse.calls a0 t163 t164 t167 t168 _ A5.out).mono ?_); rintro e w11 ⟨v165, rfl, ho0, hb⟩; refine ⟨_, rfl, ?_⟩; have n0_ := Aside0.mk (Kd.R_lower ho0 (below_size (by repeat (first | (with_reducible first | exact HB.out | apply below_alloc | apply pw_below_drewN | apply below_drew1) | exact HB.out)))); have n1_ := Aside0.mk (below_step (by repeat (first | (with_reducible first | exact HB.out | apply below_alloc | apply pw_below_drewN | apply below_drew1) | exact HB.out)) hb); clear HB; have HO166 := n0_; have HB := n1_; clear n0_ n1_; (try clear hb); (try clear hb2); (try clear hk); (try clear hi); (try clear ho0)) | ((with_reducible refine gate_dst (N := 3) rfl ?_); refine box_event ?hg (N := 3) ?hd (cs := #[.bool false, .slice none 0 0]) (t := 25) ?hr ?_; (case hd => rfl); (case hg => rfl); (case hr => first | (go_simp; done) | (go_simp; rfl)); intro gb169 hg w12 hbox hb; have n0_ := Aside0.mk (Kd.R_below (by (with_reducible repeat (first | apply Kd.R_alloc | apply Kd.R_drewN | apply Kd.R_drew)); exact HO166.out) hb); have n1_ := Aside0.mk (below_step (by repeat (first | (with_reducible first | exact HB.out | apply below_alloc | apply pw_below_drewN | apply below_drew1) | exact HB.out)) hb); have n2_ := Aside0.mk (hbox); have n3_ := Aside0.mk ((by rw [hg]; exact (below_size (by repeat (first | (with_reducible first | exact HB.out | apply below_alloc | apply pw_below_drewN | apply below_drew1) | exact HB.out))) : w.heap.size ≤ gb169)); have n4_ := Aside0.mk ((by rw [hg]; exact (below_size (by repeat (first | (with_reducible first | exact HB.out | apply below_alloc | apply pw_below_drewN | apply below_drew1) | exact HB.out))) : w.heap.size ≤ gb169)); clear HO166; clear HB; have HO166 := n0_; have HB := n1_; have BK169 := n2_; have GW169 := n3_; have GE169 := n4_; clear n0_ n1_ n2_ n3_ n4_; clear hb hbox hg) | ((with_reducible refine gate_dst (N := 4) rfl ?_); refine box_event ?hg (N := 4) ?hd (cs := #[.int .i64 0, .int .i64 0]) (t := 28) ?hr ?_; (case hd => rfl); (case hg => rfl); (case hr => first | (go_simp; done) | (go_simp; rfl)); intro gb170 hg w13 hbox hb; have n0_ := Aside0.mk (Kd.R_below (by (with_reducible repeat (first | apply Kd.R_alloc | apply Kd.R_drewN | apply Kd.R_drew)); exact HO166.out) hb); have n1_ := Aside0.mk (blk_below (g := gb169) (o := .cells #[.bool false, .slice none 0 0] 25 (0, 0)) (by (with_reducible repeat (first | refine blk_drewN ?_ _ | refine blk_drew ?_ | refine blk_alloc ?_ _)); exact BK169.out) hb); have n2_ := Aside0.mk (below_step (by repeat (first | (with_reducible first | exact HB.out | apply below_alloc | apply pw_below_drewN | apply below_drew1 | refine below_set ?_ GE169.out) | exact HB.out)) hb); have n3_ := Aside0.mk (hbox); have n4_ := Aside0.mk ((by rw [hg]; exact (below_size (by repeat (first | (with_reducible first | exact HB.out | apply below_alloc | apply pw_below_drewN | apply below_drew1 | refine below_set ?_ GE169.out) | exact HB.out))) : w.heap.size ≤ gb170)); have n5_ := Aside0.mk ((by rw [hg]; exact (below_size (by repeat (first | (with_reducible first | exact HB.out | apply below_alloc | apply pw_below_drewN | apply below_drew1 | refine below_set ?_ GE169.out) | exact HB.out))) : w.heap.size ≤ gb170)); have n6_ := Aside0.mk ((by rw [hg]; exact Nat.ne_of_lt (blk_lt (g := gb169) (o := .cells #[.bool false, .slice none 0 0] 25 (0, 0)) (by (with_reducible repeat (first | refine blk_drewN ?_ _ | refine blk_drew ?_ | refine blk_alloc ?_ _)); exact BK169.out)) : gb169 ≠ gb170)); have n7_ := Aside0.mk ((by rw [hg]; exact Nat.ne_of_gt (blk_lt (g := gb169) (o := .cells #[.bool false, .slice none 0 0] 25 (0, 0)) (by (with_reducible repeat (first | refine blk_drewN ?_ _ | refine blk_drew ?_ | refine blk_alloc ?_ _)); exact BK169.out)) : gb170 ≠ gb169)); clear HO166; clear BK169; clear HB; have HO166 := n0_; have BK169 := n1_; have HB := n2_; have BK170 := n3_; have GW170 := n4_; have GE170 := n5_; have NB169_170 := n6_; have NB170_169 := n7_; clear n0_ n1_ n2_ n3_ n4_ n5_ n6_ n7_; clear hb hbox hg; have hnb14 := NB169_170.out; have hnc14 := NB170_169.out; have hcz15_0 : w13.cell? ⟨gb169, 0, none⟩ = some (.bool false) := (blk_cell BK169.out 0).trans rfl; have hcz15_1 : w13.cell? ⟨gb169, 1, none⟩ = some (.slice none 0 0) := (blk_cell BK169.out 1).trans rfl; have hfz15_0 := blk_frozen BK169.out 0; have hfz15_1 := blk_frozen BK169.out 1; obtain ⟨Ao16, co16, eo16⟩ := Kd.R_slice HO166.out; subst eo16; have hcz17_0 : w13.cell? ⟨gb170, 0, none⟩ = some (.int .i64 0) := (blk_cell BK170.out 0).trans rfl; have hcz17_1 : w13.cell? ⟨gb170, 1, none⟩ = some (.int .i64 0) := (blk_cell BK170.out 1).trans rfl; have hfz17_0 := blk_frozen BK170.out 0; have hfz17_1 := blk_frozen BK170.out 1) | ((with_reducible refine gate_callee (f := 12) rfl ?_); refine goesL_ (some 18) rfl rfl Try.func12 (by kernel_rfl) rfl #[.string a0] rfl (by (try simp only [List.map_toArray, List.map_cons, List.map_nil]); first | done | rfl | (simp only [List.length_drop, List.length_take]; rfl)) ?_; (with_reducible refine (R17_Parse.calls k a0 t171 t172 t175 t176 _ A6.out).mono ?_); rintro e w18 ⟨v173, rfl, ho0, hb⟩; refine ⟨_, rfl, ?_⟩; have n0_ := Aside0.mk (Kd.R_elder' (by (with_reducible repeat (first | apply Kd.R_alloc | apply Kd.R_drewN | apply Kd.R_drew)); exact (Kd.R_mono (Kd.R_mono (Kd.R_far (p := ⟨gb170, 1, none⟩) (Kd.R_far (p := ⟨gb170, 0, none⟩) (Kd.R_far (p := ⟨gb169, 1, none⟩) (Kd.R_far (p := ⟨gb169, 0, none⟩) (Kd.R_types (Kd.R_types HO166.out BK169.out (by decide)) BK170.out (by decide)) (fun _ hk => hk.1.2) (.bool t163)) (fun _ hk => hk.1.2) (.slice Ao16 t164.length co16)) (fun _ hk => hk.2) (.int .i64 t167)) (fun _ hk => hk.2) (.int .i64 t168)) (fun _ h_ => h_.1)) (fun _ h_ => h_.1))) (Kd.R_base ho0) hb); have n1_ := Aside0.mk (Kd.R_lower (Kd.R_new' ho0 (Kd.R_lt (by (with_reducible repeat (first | apply Kd.R_alloc | apply Kd.R_drewN | apply Kd.R_drew)); exact (Kd.R_mono (Kd.R_mono (Kd.R_far (p := ⟨gb170, 1, none⟩) (Kd.R_far (p := ⟨gb170, 0, none⟩) (Kd.R_far (p := ⟨gb169, 1, none⟩) (Kd.R_far (p := ⟨gb169, 0, none⟩) (Kd.R_types (Kd.R_types HO166.out BK169.out (by decide)) BK170.out (by decide)) (fun _ hk => hk.1.2) (.bool t163)) (fun _ hk => hk.1.2) (.slice Ao16 t164.length co16)) (fun _ hk => hk.2) (.int .i64 t167)) (fun _ hk => hk.2) (.int .i64 t168)) (fun _ h_ => h_.1)) (fun _ h_ => h_.1))))) (below_size (by repeat (first | (with_reducible first | exact HB.out | apply below_alloc | apply pw_below_drewN | apply below_drew1 | refine below_set ?_ GE169.out | refine below_set ?_ GE170.out) | exact HB.out)))); have n2_ := Aside0.mk (blk_below (g := gb169) (o := .cells #[.bool t163, .slice Ao16 t164.length co16] 25 (0, 0)) (by (with_reducible repeat (first | refine blk_drewN ?_ _ | refine blk_drew ?_ | refine blk_alloc ?_ _)); refine blk_far ?_ NB169_170.out _; (with_reducible repeat (first | refine blk_drewN ?_ _ | refine blk_drew ?_ | refine blk_alloc ?_ _)); refine blk_far ?_ NB169_170.out _; (with_reducible repeat (first | refine blk_drewN ?_ _ | refine blk_drew ?_ | refine blk_alloc ?_ _)); refine blk_put (cs := #[.bool t163, .slice none 0 0]) ?_ 1 _ rfl; (with_reducible repeat (first | refine blk_drewN ?_ _ | refine blk_drew ?_ | refine blk_alloc ?_ _)); refine blk_put (cs := #[.bool false, .slice none 0 0]) ?_ 0 _ rfl; (with_reducible repeat (first | refine blk_drewN ?_ _ | refine blk_drew ?_ | refine blk_alloc ?_ _)); exact BK169.out) hb); have n3_ := Aside0.mk (blk_below (g := gb170) (o := .cells #[.int .i64 t167, .int .i64 t168] 28 (0, 0)) (by (with_reducible repeat (first | refine blk_drewN ?_ _ | refine blk_drew ?_ | refine blk_alloc ?_ _)); refine blk_put (cs := #[.int .i64 t167, .int .i64 0]) ?_ 1 _ rfl; (with_reducible repeat (first | refine blk_drewN ?_ _ | refine blk_drew ?_ | refine blk_alloc ?_ _)); refine blk_put (cs := #[.int .i64 0, .int .i64 0]) ?_ 0 _ rfl; (with_reducible repeat (first | refine blk_drewN ?_ _ | refine blk_drew ?_ | refine blk_alloc ?_ _)); refine blk_far ?_ NB170_169.out _; (with_reducible repeat (first | refine blk_drewN ?_ _ | refine blk_drew ?_ | refine blk_alloc ?_ _)); refine blk_far ?_ NB170_169.out _; (with_reducible repeat (first | refine blk_drewN ?_ _ | refine blk_drew ?_ | refine blk_alloc ?_ _)); exact BK170.out) hb); have n4_ := Aside0.mk (below_step (by repeat (first | (with_reducible first | exact HB.out | apply below_alloc | apply pw_below_drewN | apply below_drew1 | refine below_set ?_ GE169.out | refine below_set ?_ GE170.out) | exact HB.out)) hb); clear HO166; clear BK169; clear BK170; clear HB; have HO166 := n0_; have HO174 := n1_; have BK169 := n2_; have BK170 := n3_; have HB := n4_; clear n0_ n1_ n2_ n3_ n4_; (try clear hb); (try clear hb2); (try clear hk); (try clear hi); (try clear ho0)) | ((with_reducible refine gate_dst (N := 5) rfl ?_); refine box_event ?hg (N := 5) ?hd (cs := #[.bool false, .slice none 0 0]) (t := 25) ?hr ?_; (case hd => rfl); (case hg => rfl); (case hr => first | (go_simp; done) | (go_simp; rfl)); intro gb177 hg w19 hbox hb; have n0_ := Aside0.mk (Kd.R_below (by (with_reducible repeat (first | apply Kd.R_alloc | apply Kd.R_drewN | apply Kd.R_drew)); exact HO166.out) hb); have n1_ := Aside0.mk (Kd.R_below (by (with_reducible repeat (first | apply Kd.R_alloc | apply Kd.R_drewN | apply Kd.R_drew)); exact HO174.out) hb); have n2_ := Aside0.mk (blk_below (g := gb169) (o := .cells #[.bool t163, .slice Ao16 t164.length co16] 25 (0, 0)) (by (with_reducible repeat (first | refine blk_drewN ?_ _ | refine blk_drew ?_ | refine blk_alloc ?_ _)); exact BK169.out) hb); have n3_ := Aside0.mk (blk_below (g := gb170) (o := .cells #[.int .i64 t167, .int .i64 t168] 28 (0, 0)) (by (with_reducible repeat (first | refine blk_drewN ?_ _ | refine blk_drew ?_ | refine blk_alloc ?_ _)); exact BK170.out) hb); have n4_ := Aside0.mk (below_step (by repeat (first | (with_reducible first | exact HB.out | apply below_alloc | apply pw_below_drewN | apply below_drew1 | refine below_set ?_ GE169.out | refine below_set ?_ GE170.out) | exact HB.out)) hb); have n5_ := Aside0.mk (hbox); have n6_ := Aside0.mk ((by rw [hg]; exact (below_size (by repeat (first | (with_reducible first | exact HB.out | apply below_alloc | apply pw_below_drewN | apply below_drew1 | refine below_set ?_ GE169.out | refine below_set ?_ GE170.out) | exact HB.out))) : w.heap.size ≤ gb177)); have n7_ := Aside0.mk ((by rw [hg]; exact (below_size (by repeat (first | (with_reducible first | exact HB.out | apply below_alloc | apply pw_below_drewN | apply below_drew1 | refine below_set ?_ GE169.out | refine below_set ?_ GE170.out) | exact HB.out))) : w.heap.size ≤ gb177)); have n8_ := Aside0.mk ((by rw [hg]; exact Nat.ne_of_lt (blk_lt (g := gb169) (o := .cells #[.bool t163, .slice Ao16 t164.length co16] 25 (0, 0)) (by (with_reducible repeat (first | refine blk_drewN ?_ _ | refine blk_drew ?_ | refine blk_alloc ?_ _)); exact BK169.out)) : gb169 ≠ gb177)); have n9_ := Aside0.mk ((by rw [hg]; exact Nat.ne_of_gt (blk_lt (g := gb169) (o := .cells #[.bool t163, .slice Ao16 t164.length co16] 25 (0, 0)) (by (with_reducible repeat (first | refine blk_drewN ?_ _ | refine blk_drew ?_ | refine blk_alloc ?_ _)); exact BK169.out)) : gb177 ≠ gb169)); have n10_ := Aside0.mk ((by rw [hg]; exact Nat.ne_of_lt (blk_lt (g := gb170) (o := .cells #[.int .i64 t167, .int .i64 t168] 28 (0, 0)) (by (with_reducible repeat (first | refine blk_drewN ?_ _ | refine blk_drew ?_ | refine blk_alloc ?_ _)); exact BK170.out)) : gb170 ≠ gb177)); have n11_ := Aside0.mk ((by rw [hg]; exact Nat.ne_of_gt (blk_lt (g := gb170) (o := .cells #[.int .i64 t167, .int .i64 t168] 28 (0, 0)) (by (with_reducible repeat (first | refine blk_drewN ?_ _ | refine blk_drew ?_ | refine blk_alloc ?_ _)); exact BK170.out)) : gb177 ≠ gb170)); clear HO166; clear HO174; clear BK169; clear BK170; clear HB; have HO166 := n0_; have HO174 := n1_; have BK169 := n2_; have BK170 := n3_; have HB := n4_; have BK177 := n5_; have GW177 := n6_; have GE177 := n7_; have NB169_177 := n8_; have NB177_169 := n9_; have NB170_177 := n10_; have NB177_170 := n11_; clear n0_ n1_ n2_ n3_ n4_ n5_ n6_ n7_ n8_ n9_ n10_ n11_; clear hb hbox hg) | ((with_reducible refine gate_dst (N := 6) rfl ?_); refine box_event ?hg (N := 6) ?hd (cs := #[.int .i64 0, .int .i64 0]) (t := 28) ?hr ?_; (case hd => rfl); (case hg => rfl); (case hr => first | (go_simp; done) | (go_simp; rfl)); intro gb178 hg w20 hbox hb; have n0_ := Aside0.mk (Kd.R_below (by (with_reducible repeat (first | apply Kd.R_alloc | apply Kd.R_drewN | apply Kd.R_drew)); exact HO166.out) hb); have n1_ := Aside0.mk (Kd.R_below (by (with_reducible repeat (first | apply Kd.R_alloc | apply Kd.R_drewN | apply Kd.R_drew)); exact HO174.out) hb); have n2_ := Aside0.mk (blk_below (g := gb169) (o := .cells #[.bool t163, .slice Ao16 t164.length co16] 25 (0, 0)) (by (with_reducible repeat (first | refine blk_drewN ?_ _ | refine blk_drew ?_ | refine blk_alloc ?_ _)); exact BK169.out) hb); have n3_ := Aside0.mk (blk_below (g := gb170) (o := .cells #[.int .i64 t167, .int .i64 t168] 28 (0, 0)) (by (with_reducible repeat (first | refine blk_drewN ?_ _ | refine blk_drew ?_ | refine blk_alloc ?_ _)); exact BK170.out) hb); have n4_ := Aside0.mk (blk_below (g := gb177) (o := .cells #[.bool false, .slice none 0 0] 25 (0, 0)) (by (with_reducible repeat (first | refine blk_drewN ?_ _ | refine blk_drew ?_ | refine blk_alloc ?_ _)); exact BK177.out) hb); have n5_ := Aside0.mk (below_step (by repeat (first | (with_reducible first | exact HB.out | apply below_alloc | apply pw_below_drewN | apply below_drew1 | refine below_set ?_ GE169.out | refine below_set ?_ GE170.out | refine below_set ?_ GE177.out) | exact HB.out)) hb); have n6_ := Aside0.mk (hbox); have n7_ := Aside0.mk ((by rw [hg]; exact (below_size (by repeat (first | (with_reducible first | exact HB.out | apply below_alloc | apply pw_below_drewN | apply below_drew1 | refine below_set ?_ GE169.out | refine below_set ?_ GE170.out | refine below_set ?_ GE177.out) | exact HB.out))) : w.heap.size ≤ gb178)); have n8_ := Aside0.mk ((by rw [hg]; exact (below_size (by repeat (first | (with_reducible first | exact HB.out | apply below_alloc | apply pw_below_drewN | apply below_drew1 | refine below_set ?_ GE169.out | refine below_set ?_ GE170.out | refine below_set ?_ GE177.out) | exact HB.out))) : w.heap.size ≤ gb178)); have n9_ := Aside0.mk ((by rw [hg]; exact Nat.ne_of_lt (blk_lt (g := gb169) (o := .cells #[.bool t163, .slice Ao16 t164.length co16] 25 (0, 0)) (by (with_reducible repeat (first | refine blk_drewN ?_ _ | refine blk_drew ?_ | refine blk_alloc ?_ _)); exact BK169.out)) : gb169 ≠ gb178)); have n10_ := Aside0.mk ((by rw [hg]; exact Nat.ne_of_gt (blk_lt (g := gb169) (o := .cells #[.bool t163, .slice Ao16 t164.length co16] 25 (0, 0)) (by (with_reducible repeat (first | refine blk_drewN ?_ _ | refine blk_drew ?_ | refine blk_alloc ?_ _)); exact BK169.out)) : gb178 ≠ gb169)); have n11_ := Aside0.mk ((by rw [hg]; exact Nat.ne_of_lt (blk_lt (g := gb170) (o := .cells #[.int .i64 t167, .int .i64 t168] 28 (0, 0)) (by (with_reducible repeat (first | refine blk_drewN ?_ _ | refine blk_drew ?_ | refine blk_alloc ?_ _)); exact BK170.out)) : gb170 ≠ gb178)); have n12_ := Aside0.mk ((by rw [hg]; exact Nat.ne_of_gt (blk_lt (g := gb170) (o := .cells #[.int .i64 t167, .int .i64 t168] 28 (0, 0)) (by (with_reducible repeat (first | refine blk_drewN ?_ _ | refine blk_drew ?_ | refine blk_alloc ?_ _)); exact BK170.out)) : gb178 ≠ gb170)); have n13_ := Aside0.mk ((by rw [hg]; exact Nat.ne_of_lt (blk_lt (g := gb177) (o := .cells #[.bool false, .slice none 0 0] 25 (0, 0)) (by (with_reducible repeat (first | refine blk_drewN ?_ _ | refine blk_drew ?_ | refine blk_alloc ?_ _)); exact BK177.out)) : gb177 ≠ gb178)); have n14_ := Aside0.mk ((by rw [hg]; exact Nat.ne_of_gt (blk_lt (g := gb177) (o := .cells #[.bool false, .slice none 0 0] 25 (0, 0)) (by (with_reducible repeat (first | refine blk_drewN ?_ _ | refine blk_drew ?_ | refine blk_alloc ?_ _)); exact BK177.out)) : gb178 ≠ gb177)); clear HO166; clear HO174; clear BK169; clear BK170; clear BK177; clear HB; have HO166 := n0_; have HO174 := n1_; have BK169 := n2_; have BK170 := n3_; have BK177 := n4_; have HB := n5_; have BK178 := n6_; have GW178 := n7_; have GE178 := n8_; have NB169_178 := n9_; have NB178_169 := n10_; have NB170_178 := n11_; have NB178_170 := n12_; have NB177_178 := n13_; have NB178_177 := n14_; clear n0_ n1_ n2_ n3_ n4_ n5_ n6_ n7_ n8_ n9_ n10_ n11_ n12_ n13_ n14_; clear hb hbox hg; have hnb21 := NB177_169.out; have hnc21 := NB169_177.out; have hnb22 := NB177_170.out; have hnc22 := NB170_177.out; have hnb23 := NB177_178.out; have hnc23 := NB178_177.out; have hcz24_0 : w20.cell? ⟨gb177, 0, none⟩ = some (.bool false) := (blk_cell BK177.out 0).trans rfl; have hcz24_1 : w20.cell? ⟨gb177, 1, none⟩ = some (.slice none 0 0) := (blk_cell BK177.out 1).trans rfl; have hfz24_0 := blk_frozen BK177.out 0; have hfz24_1 := blk_frozen BK177.out 1; obtain ⟨Ao25, co25, eo25⟩ := Kd.R_slice HO174.out; subst eo25; have hnb26 := NB178_169.out; have hnc26 := NB169_178.out; have hnb27 := NB178_170.out; have hnc27 := NB170_178.out; have hcz28_0 : w20.cell? ⟨gb178, 0, none⟩ = some (.int .i64 0) := (blk_cell BK178.out 0).trans rfl; have hcz28_1 : w20.cell? ⟨gb178, 1, none⟩ = some (.int .i64 0) := (blk_cell BK178.out 1).trans rfl; have hfz28_0 := blk_frozen BK178.out 0; have hfz28_1 := blk_frozen BK178.out 1; have hcz29_0 : w20.cell? ⟨gb169, 0, none⟩ = some (.bool t163) := (blk_cell BK169.out 0).trans rfl; have hcz29_1 : w20.cell? ⟨gb169, 1, none⟩ = some (.slice Ao16 t164.length co16) := (blk_cell BK169.out 1).trans rfl; have hfz29_0 := blk_frozen BK169.out 0; have hfz29_1 := blk_frozen BK169.out 1) | ((with_reducible refine gate_callee (f := 13) rfl ?_); refine goesL_ (some 23) rfl rfl Try.func13 (by kernel_rfl) rfl #[.agg #[.bool t163, .slice Ao16 t164.length co16], .agg #[.bool t171, .slice Ao25 t172.length co25]] rfl (by (try simp only [List.map_toArray, List.map_cons, List.map_nil]); first | done | rfl | (simp only [List.length_drop, List.length_take]; rfl)) ?_; (with_reducible refine (K_SameChain.calls k t163 _ _ t164 t171 _ _ t172 true _ ?side1 ?side2 ?side3 ?side4 A7.out).mono ?_); (case side1 => refine (Kd.R_reads' (e := 4) (base := w.heap.size) (ok := fun k_ => (True ∧ some k_ ≠ (.slice Ao25 t172.length co25 : Value).ownBlock)) (n := t164.length) (c := co16) ?_).2.2; exact (by (with_reducible repeat (first | apply Kd.R_alloc | apply Kd.R_drewN | apply Kd.R_drew)); exact (Kd.R_mono (Kd.R_mono (Kd.R_far (p := ⟨gb178, 1, none⟩) (Kd.R_far (p := ⟨gb178, 0, none⟩) (Kd.R_far (p := ⟨gb177, 1, none⟩) (Kd.R_far (p := ⟨gb177, 0, none⟩) (Kd.R_types (Kd.R_types HO166.out BK177.out (by decide)) BK178.out (by decide)) (fun _ hk => hk.1.2) (.bool t171)) (fun _ hk => hk.1.2) (.slice Ao25 t172.length co25)) (fun _ hk => hk.2) (.int .i64 t175)) (fun _ hk => hk.2) (.int .i64 t176)) (fun _ h_ => h_.1)) (fun _ h_ => h_.1)))); (case side2 => exact (Kd.R_reads' HO166.out).2.1); (case side3 => refine (Kd.R_reads' (e := 4) (base := w.heap.size) (ok := fun k_ => (True ∧ some k_ ≠ (.slice Ao16 t164.length co16 : Value).ownBlock)) (n := t172.length) (c := co25) ?_).2.2; exact (by (with_reducible repeat (first | apply Kd.R_alloc | apply Kd.R_drewN | apply Kd.R_drew)); exact (Kd.R_mono (Kd.R_mono (Kd.R_far (p := ⟨gb178, 1, none⟩) (Kd.R_far (p := ⟨gb178, 0, none⟩) (Kd.R_far (p := ⟨gb177, 1, none⟩) (Kd.R_far (p := ⟨gb177, 0, none⟩) (Kd.R_types (Kd.R_types HO174.out BK177.out (by decide)) BK178.out (by decide)) (fun _ hk => hk.1.2) (.bool t171)) (fun _ hk => hk.1.2) (.slice Ao25 t172.length co25)) (fun _ hk => hk.2) (.int .i64 t175)) (fun _ hk => hk.2) (.int .i64 t176)) (fun _ h_ => h_.1)) (fun _ h_ => h_.1)))); (case side4 => exact (Kd.R_reads' HO174.out).2.1); rintro e w30 ⟨rfl, hb⟩; refine ⟨_, rfl, ?_⟩; have n3_ := Aside0.mk (blk_below (g := gb170) (o := .cells #[.int .i64 t167, .int .i64 t168] 28 (0, 0)) (by (with_reducible repeat (first | refine blk_drewN ?_ _ | refine blk_drew ?_ | refine blk_alloc ?_ _)); refine blk_far ?_ NB170_178.out _; (with_reducible repeat (first | refine blk_drewN ?_ _ | refine blk_drew ?_ | refine blk_alloc ?_ _)); refine blk_far ?_ NB170_178.out _; (with_reducible repeat (first | refine blk_drewN ?_ _ | refine blk_drew ?_ | refine blk_alloc ?_ _)); refine blk_far ?_ NB170_177.out _; (with_reducible repeat (first | refine blk_drewN ?_ _ | refine blk_drew ?_ | refine blk_alloc ?_ _)); refine blk_far ?_ NB170_177.out _; (with_reducible repeat (first | refine blk_drewN ?_ _ | refine blk_drew ?_ | refine blk_alloc ?_ _)); exact BK170.out) hb); have n4_ := Aside0.mk (blk_below (g := gb177) (o := .cells #[.bool t171, .slice Ao25 t172.length co25] 25 (0, 0)) (by (with_reducible repeat (first | refine blk_drewN ?_ _ | refine blk_drew ?_ | refine blk_alloc ?_ _)); refine blk_far ?_ NB177_178.out _; (with_reducible repeat (first | refine blk_drewN ?_ _ | refine blk_drew ?_ | refine blk_alloc ?_ _)); refine blk_far ?_ NB177_178.out _; (with_reducible repeat (first | refine blk_drewN ?_ _ | refine blk_drew ?_ | refine blk_alloc ?_ _)); refine blk_put (cs := #[.bool t171, .slice none 0 0]) ?_ 1 _ rfl; (with_reducible repeat (first | refine blk_drewN ?_ _ | refine blk_drew ?_ | refine blk_alloc ?_ _)); refine blk_put (cs := #[.bool false, .slice none 0 0]) ?_ 0 _ rfl; (with_reducible repeat (first | refine blk_drewN ?_ _ | refine blk_drew ?_ | refine blk_alloc ?_ _)); exact BK177.out) hb); have n5_ := Aside0.mk (blk_below (g := gb178) (o := .cells #[.int .i64 t175, .int .i64 t176] 28 (0, 0)) (by (with_reducible repeat (first | refine blk_drewN ?_ _ | refine blk_drew ?_ | refine blk_alloc ?_ _)); refine blk_put (cs := #[.int .i64 t175, .int .i64 0]) ?_ 1 _ rfl; (with_reducible repeat (first | refine blk_drewN ?_ _ | refine blk_drew ?_ | refine blk_alloc ?_ _)); refine blk_put (cs := #[.int .i64 0, .int .i64 0]) ?_ 0 _ rfl; (with_reducible repeat (first | refine blk_drewN ?_ _ | refine blk_drew ?_ | refine blk_alloc ?_ _)); refine blk_far ?_ NB178_177.out _; (with_reducible repeat (first | refine blk_drewN ?_ _ | refine blk_drew ?_ | refine blk_alloc ?_ _)); refine blk_far ?_ NB178_177.out _; (with_reducible repeat (first | refine blk_drewN ?_ _ | refine blk_drew ?_ | refine blk_alloc ?_ _)); exact BK178.out) hb); have n6_ := Aside0.mk (below_step (by repeat (first | (with_reducible first | exact HB.out | apply below_alloc | apply pw_below_drewN | apply below_drew1 | refine below_set ?_ GE169.out | refine below_set ?_ GE170.out | refine below_set ?_ GE177.out | refine below_set ?_ GE178.out) | exact HB.out)) hb); clear HO166; clear HO174; clear BK169; clear BK170; clear BK177; clear BK178; clear HB; have BK170 := n3_; have BK177 := n4_; have BK178 := n5_; have HB := n6_; clear n3_ n4_ n5_ n6_; (try clear hb); (try clear hb2); (try clear hk); (try clear hi); have hcz31_0 : w30.cell? ⟨gb170, 0, none⟩ = some (.int .i64 t167) := (blk_cell BK170.out 0).trans rfl; have hcz31_1 : w30.cell? ⟨gb170, 1, none⟩ = some (.int .i64 t168) := (blk_cell BK170.out 1).trans rfl; have hfz31_0 := blk_frozen BK170.out 0; have hfz31_1 := blk_frozen BK170.out 1; have hcz32_0 : w30.cell? ⟨gb178, 0, none⟩ = some (.int .i64 t175) := (blk_cell BK178.out 0).trans rfl; have hcz32_1 : w30.cell? ⟨gb178, 1, none⟩ = some (.int .i64 t176) := (blk_cell BK178.out 1).trans rfl; have hfz32_0 := blk_frozen BK178.out 0; have hfz32_1 := blk_frozen BK178.out 1) | ((with_reducible refine gate_callee (f := 10) rfl ?_); (with_reducible refine gate_dst (N := 30) rfl ?_); refine gate_guard (by rfl) ?_; dsimp only; refine goesL_ (some 30) rfl rfl Try.func10 (by kernel_rfl) rfl #[] rfl (by (try simp only [List.map_toArray, List.map_cons, List.map_nil]); first | done | rfl | (simp only [List.length_drop, List.length_take]; rfl)) ?_; (with_reducible refine (L17_awake.calls  true _ A10.out).mono ?_); rintro e w33 ⟨rfl, hb⟩; refine ⟨_, rfl, ?_⟩; have n6_ := Aside0.mk (below_step (by repeat (first | (with_reducible first | exact HB.out | apply below_alloc | apply pw_below_drewN | apply below_drew1 | refine below_set ?_ GE169.out | refine below_set ?_ GE170.out | refine below_set ?_ GE177.out | refine below_set ?_ GE178.out) | exact HB.out)) hb); clear BK170; clear BK177; clear BK178; clear HB; have HB := n6_; clear n6_; (try clear hb); (try clear hb2); (try clear hk); (try clear hi)))
    all_goals go_ret
    all_goals exact ⟨by first | rfl | (simp [errW_none, errW_some] <;> rfl) | (simp [*, errW_none, errW_some] <;> rfl), by repeat (first | (with_reducible first | exact HB.out | apply below_alloc | apply pw_below_drewN | apply below_drew1 | refine below_set ?_ GE169.out | refine below_set ?_ GE170.out | refine below_set ?_ GE177.out | refine below_set ?_ GE178.out) | exact HB.out)⟩

/-- THE ONE PURE STATEMENT of L17_LockReads: yours. -/
def L17_LockReads.Pure : Prop := ∀ (a0 : ByteArray), a0.size ≤ 140737488351232 → ∃ k, L17_LockReads.f k a0 = some true
theorem L17_LockReads.walk (P : L17_LockReads.Pure) (a0 : ByteArray) (w : World) (w0 : a0.size ≤ 140737488351232) :
    Calls Try.prog 3 #[.string a0] w fun e w' => e = .returned (.bool true) ∧ Below w.heap.size w w' := by
  obtain ⟨k, h⟩ := P a0 w0
  refine (L17_LockReads.calls k a0 true w h).mono ?_
  rintro e w' ⟨rfl, hd⟩
  exact ⟨rfl, hd⟩

end Go.Proofs.Ytdkabbjknclifaa.F
end
section
namespace Go.Proofs.Ytdkabbjknclifaa.Pure
open Go.RowKit Go.Proofs.Ytdkabbjknclifaa.F Go.Proofs.YtdkabbjknclifaaW.PrintWords Go.Proofs.YtdkabbjknclifaaW.PrintLast
set_option linter.unusedVariables false
set_option linter.unusedSimpArgs false
theorem w64s {x : Int} (h0 : -100000 ≤ x) (h1 : x ≤ 100000) : wrap64 x = x := by unfold wrap64; omega
end Go.Proofs.Ytdkabbjknclifaa.Pure
end
section
namespace Go.Proofs.Ytdkabbjknclifaa.Pure
open Go.RowKit Go.Proofs.Ytdkabbjknclifaa.F Go.Proofs.YtdkabbjknclifaaW.PrintWords Go.Proofs.YtdkabbjknclifaaW.PrintLast
set_option linter.unusedVariables false
set_option linter.unusedSimpArgs false
theorem w64n {i : Nat} (h : i ≤ 90000) : wrap64 ((i : Int) + 1) = ((i + 1 : Nat) : Int) := by rw [w64s (by omega) (by omega)]; omega
end Go.Proofs.Ytdkabbjknclifaa.Pure
end
section
namespace Go.Proofs.Ytdkabbjknclifaa.Pure
open Go.RowKit Go.Proofs.Ytdkabbjknclifaa.F Go.Proofs.YtdkabbjknclifaaW.PrintWords Go.Proofs.YtdkabbjknclifaaW.PrintLast
set_option linter.unusedVariables false
set_option linter.unusedSimpArgs false
theorem rd_drop {α : Type} {d : α} {l : List α} {i : Nat} (h : i < l.length) : l.drop i = rdOf d l i :: l.drop (i + 1) := by
  have e : rdOf d l i = l[i] := by simp [rdOf, List.getD_eq_getElem?_getD, List.getElem?_eq_getElem h]
  rw [e, List.drop_eq_getElem_cons h]
end Go.Proofs.Ytdkabbjknclifaa.Pure
end
section
namespace Go.Proofs.Ytdkabbjknclifaa.Pure
open Go.RowKit Go.Proofs.Ytdkabbjknclifaa.F Go.Proofs.YtdkabbjknclifaaW.PrintWords Go.Proofs.YtdkabbjknclifaaW.PrintLast
set_option linter.unusedVariables false
set_option linter.unusedSimpArgs false
/-- The landings that are not locked. -/
def openFrom : Nat → List Bool → List Int
  | _, [] => []
  | i, x :: r => if x = true then openFrom (i + 1) r else (i : Int) :: openFrom (i + 1) r
end Go.Proofs.Ytdkabbjknclifaa.Pure
end
section
namespace Go.Proofs.Ytdkabbjknclifaa.Pure
open Go.RowKit Go.Proofs.Ytdkabbjknclifaa.F Go.Proofs.YtdkabbjknclifaaW.PrintWords Go.Proofs.YtdkabbjknclifaaW.PrintLast
set_option linter.unusedVariables false
set_option linter.unusedSimpArgs false
def fin (b : Bool) (n : Int) : Int := if n > 1 then 9 else if n = 1 then (if b = true then 9 else 0) else 0
end Go.Proofs.Ytdkabbjknclifaa.Pure
end
section
namespace Go.Proofs.Ytdkabbjknclifaa.Pure
open Go.RowKit Go.Proofs.Ytdkabbjknclifaa.F Go.Proofs.YtdkabbjknclifaaW.PrintWords Go.Proofs.YtdkabbjknclifaaW.PrintLast
set_option linter.unusedVariables false
set_option linter.unusedSimpArgs false
def chk (b : Bool) (l : List Bool) : Int := if l.length < 2 then 2 else if 64 < l.length then 2 else fin b (openFrom 0 l).length
end Go.Proofs.Ytdkabbjknclifaa.Pure
end
section
namespace Go.Proofs.Ytdkabbjknclifaa.Pure
open Go.RowKit Go.Proofs.Ytdkabbjknclifaa.F Go.Proofs.YtdkabbjknclifaaW.PrintWords Go.Proofs.YtdkabbjknclifaaW.PrintLast
set_option linter.unusedVariables false
set_option linter.unusedSimpArgs false
theorem check_l0 {l : List Bool} (hl : l.length ≤ 1000) (b : Bool) (l' : List Bool) : ∀ (d k i n : Nat), i + d = l.length → n ≤ i → d + 1 ≤ k →
    lock_Check.l0 k (n : Int) l (l.length : Int) (i : Int) b l' = some (fin b ((n : Int) + (openFrom i (l.drop i)).length))
  | 0, k, i, n, hi, hn, hk => by
    obtain ⟨k, rfl⟩ : ∃ j, k = j + 1 := ⟨k - 1, by omega⟩
    obtain rfl : i = l.length := by omega
    simp only [lock_Check.l0]
    rw [if_neg (by omega), List.drop_length]
    have e : (n : Int) + ((openFrom l.length ([] : List Bool)).length : Int) = n := by simp [openFrom]
    rw [e]
    unfold fin
    by_cases h1 : (n : Int) > 1
    · rw [if_pos h1, if_pos h1]
    · rw [if_neg h1, if_neg h1]
      by_cases h2 : (n : Int) = 1
      · rw [if_pos h2, if_pos h2]; split <;> rfl
      · rw [if_neg h2, if_neg h2]
  | d + 1, k, i, n, hi, hn, hk => by
    obtain ⟨k, rfl⟩ : ∃ j, k = j + 1 := ⟨k - 1, by omega⟩
    simp only [lock_Check.l0]
    rw [if_pos (by omega), if_pos (by omega), if_pos (by omega), rd_drop (d := false) (show i < l.length by omega), w64n (by omega)]
    by_cases h : rdOf false l (i : Int) = true
    · rw [if_pos h, check_l0 hl b l' d k (i + 1) n (by omega) (by omega) (by omega)]
      simp only [openFrom, if_pos h]
    · rw [if_neg h, w64n (by omega), check_l0 hl b l' d k (i + 1) (n + 1) (by omega) (by omega) (by omega)]
      simp only [openFrom, if_neg h, List.length_cons]
      congr 2
      omega
end Go.Proofs.Ytdkabbjknclifaa.Pure
end
section
namespace Go.Proofs.Ytdkabbjknclifaa.Pure
open Go.RowKit Go.Proofs.Ytdkabbjknclifaa.F Go.Proofs.YtdkabbjknclifaaW.PrintWords Go.Proofs.YtdkabbjknclifaaW.PrintLast
set_option linter.unusedVariables false
set_option linter.unusedSimpArgs false
theorem lock_check {l : List Bool} (hl : l.length ≤ 1000) (b : Bool) {k : Nat} (hk : l.length + 3 ≤ k) : lock_Check.f k b l = some (chk b l) := by
  obtain ⟨k, rfl⟩ : ∃ j, k = j + 1 := ⟨k - 1, by omega⟩
  unfold lock_Check.f chk
  by_cases h1 : l.length < 2
  · rw [if_pos (by omega), if_pos h1]; simp [lock_Check.j0]
  · rw [if_neg (by omega), if_neg h1]
    by_cases h2 : 64 < l.length
    · rw [if_pos h2]; simp only [lock_Check.j0]; rw [if_pos (decide_eq_true (by omega))]
    · rw [if_neg h2]
      simp only [lock_Check.j0]
      rw [if_neg (by simp; omega)]
      have := check_l0 hl b l l.length k 0 0 (by omega) (by omega) (by omega)
      simpa using this
end Go.Proofs.Ytdkabbjknclifaa.Pure
end
section
namespace Go.Proofs.Ytdkabbjknclifaa.Pure
open Go.RowKit Go.Proofs.Ytdkabbjknclifaa.F Go.Proofs.YtdkabbjknclifaaW.PrintWords Go.Proofs.YtdkabbjknclifaaW.PrintLast
set_option linter.unusedVariables false
set_option linter.unusedSimpArgs false
theorem open_l0 {l : List Bool} (hl : l.length ≤ 1000) (b : Bool) : ∀ (d k i : Nat) (acc : List Int), i + d = l.length → acc.length ≤ i → d + 1 ≤ k →
    R17_open.l0 k acc (i : Int) b l = some (acc ++ openFrom i (l.drop i))
  | 0, k, i, acc, hi, ha, hk => by
    obtain ⟨k, rfl⟩ : ∃ j, k = j + 1 := ⟨k - 1, by omega⟩
    obtain rfl : i = l.length := by omega
    simp only [R17_open.l0]
    rw [if_neg (by omega), List.drop_length]
    simp [openFrom]
  | d + 1, k, i, acc, hi, ha, hk => by
    obtain ⟨k, rfl⟩ : ∃ j, k = j + 1 := ⟨k - 1, by omega⟩
    simp only [R17_open.l0]
    rw [if_pos (by omega), if_pos (by omega), rd_drop (d := false) (show i < l.length by omega), w64n (by omega)]
    by_cases h : rdOf false l (i : Int) = true
    · rw [if_pos h, open_l0 hl b d k (i + 1) acc (by omega) (by omega) (by omega)]
      simp only [openFrom, if_pos h]
    · rw [if_neg h, if_pos (by omega), open_l0 hl b d k (i + 1) _ (by omega) (by simp; omega) (by omega)]
      simp only [openFrom, if_neg h, List.append_assoc, List.singleton_append]
end Go.Proofs.Ytdkabbjknclifaa.Pure
end
section
namespace Go.Proofs.Ytdkabbjknclifaa.Pure
open Go.RowKit Go.Proofs.Ytdkabbjknclifaa.F Go.Proofs.YtdkabbjknclifaaW.PrintWords Go.Proofs.YtdkabbjknclifaaW.PrintLast
set_option linter.unusedVariables false
set_option linter.unusedSimpArgs false
theorem ref_open {l : List Bool} (hl : l.length ≤ 1000) (b : Bool) {k : Nat} (hk : l.length + 1 ≤ k) : R17_open.f k b l = some (openFrom 0 l) := by
  unfold R17_open.f
  have := open_l0 hl b l.length k 0 [] (by omega) (by simp) hk
  simpa using this
end Go.Proofs.Ytdkabbjknclifaa.Pure
end
section
namespace Go.Proofs.Ytdkabbjknclifaa.Pure
open Go.RowKit Go.Proofs.Ytdkabbjknclifaa.F Go.Proofs.YtdkabbjknclifaaW.PrintWords Go.Proofs.YtdkabbjknclifaaW.PrintLast
set_option linter.unusedVariables false
set_option linter.unusedSimpArgs false
theorem ref_check {l : List Bool} (hl : l.length ≤ 1000) (b : Bool) {k : Nat} (hk : l.length + 3 ≤ k) : R17_Check.f k b l = some (chk b l) := by
  obtain ⟨k, rfl⟩ : ∃ j, k = j + 1 := ⟨k - 1, by omega⟩
  unfold R17_Check.f chk
  rw [ref_open hl b (by omega)]
  simp only [Option.bind_some]
  by_cases h1 : l.length < 2
  · rw [if_pos (by omega), if_pos h1]; simp [R17_Check.j0]
  · rw [if_neg (by omega), if_neg h1]
    by_cases h2 : 64 < l.length
    · rw [if_pos h2]; simp only [R17_Check.j0]; rw [if_pos (decide_eq_true (by omega))]
    · rw [if_neg h2]
      simp only [R17_Check.j0]
      rw [if_neg (by simp; omega)]
      unfold fin
      repeat' split
      all_goals rfl
end Go.Proofs.Ytdkabbjknclifaa.Pure
end
section
namespace Go.Proofs.Ytdkabbjknclifaa.Pure
open Go.RowKit Go.Proofs.Ytdkabbjknclifaa.F Go.Proofs.YtdkabbjknclifaaW.PrintWords Go.Proofs.YtdkabbjknclifaaW.PrintLast
set_option linter.unusedVariables false
set_option linter.unusedSimpArgs false
theorem bools_l0 {l : List Bool} (hl : l.length ≤ 1000) : ∀ (d k i : Nat), i + d = l.length → d + 1 ≤ k → K_SameBools.l0 k l l (i : Int) = some true
  | 0, k, i, hi, hk => by
    obtain ⟨k, rfl⟩ : ∃ j, k = j + 1 := ⟨k - 1, by omega⟩
    simp only [K_SameBools.l0]
    rw [if_neg (by omega)]
  | d + 1, k, i, hi, hk => by
    obtain ⟨k, rfl⟩ : ∃ j, k = j + 1 := ⟨k - 1, by omega⟩
    simp only [K_SameBools.l0]
    rw [if_pos (by omega), if_pos (by omega), if_pos (by omega), if_neg (by simp), w64n (by omega)]
    exact bools_l0 hl d k (i + 1) (by omega) (by omega)
end Go.Proofs.Ytdkabbjknclifaa.Pure
end
section
namespace Go.Proofs.Ytdkabbjknclifaa.Pure
open Go.RowKit Go.Proofs.Ytdkabbjknclifaa.F Go.Proofs.YtdkabbjknclifaaW.PrintWords Go.Proofs.YtdkabbjknclifaaW.PrintLast
set_option linter.unusedVariables false
set_option linter.unusedSimpArgs false
theorem same_chain {l : List Bool} (hl : l.length ≤ 1000) (b : Bool) {k : Nat} (hk : l.length + 1 ≤ k) : K_SameChain.f k b l b l = some true := by
  unfold K_SameChain.f K_SameBools.f
  have := bools_l0 hl l.length k 0 (by omega) hk

  rw [if_pos (by simp), if_pos rfl, show ((0 : Int)) = ((0 : Nat) : Int) from rfl, this]
  rfl
end Go.Proofs.Ytdkabbjknclifaa.Pure
end
section
namespace Go.Proofs.Ytdkabbjknclifaa.Pure
open Go.RowKit Go.Proofs.Ytdkabbjknclifaa.F Go.Proofs.YtdkabbjknclifaaW.PrintWords Go.Proofs.YtdkabbjknclifaaW.PrintLast
set_option linter.unusedVariables false
theorem awake_true : L17_awake.f = some true := by kernel_rfl
end Go.Proofs.Ytdkabbjknclifaa.Pure
end
section
namespace Go.Proofs.Ytdkabbjknclifaa.Pure
open Go.RowKit Go.Proofs.Ytdkabbjknclifaa.F Go.Proofs.YtdkabbjknclifaaW.PrintWords Go.Proofs.YtdkabbjknclifaaW.PrintLast
set_option linter.unusedVariables false
def pres (n : Nat) : Sum Nat (Bool × List Bool) → Bool × List Bool × Int × Int
  | .inl i => (false, [], 3, (i : Int))
  | .inr (b, l) => if n < 2 then (false, [], 3, (n : Int)) else if chk b l = 0 then (b, l, 0, 0) else (false, [], chk b l, 0)
end Go.Proofs.Ytdkabbjknclifaa.Pure
end
section
namespace Go.Proofs.Ytdkabbjknclifaa.Pure
open Go.RowKit Go.Proofs.Ytdkabbjknclifaa.F Go.Proofs.YtdkabbjknclifaaW.PrintWords Go.Proofs.YtdkabbjknclifaaW.PrintLast
set_option linter.unusedVariables false
theorem parseL_le : ∀ (L : List UInt8) (i : Nat) (b : Bool) (acc : List Bool) (b' : Bool) (l : List Bool), parseL L i b acc = .inr (b', l) → l.length ≤ acc.length + L.length
  | [], i, b, acc, b', l, h => by simp [parseL] at h; obtain ⟨_, rfl⟩ := h; simp
  | c :: r, i, b, acc, b', l, h => by
    unfold parseL at h
    repeat' split at h
    all_goals first | (cases h; done) | (have := parseL_le _ _ _ _ _ _ h; simp at this ⊢; omega)
end Go.Proofs.Ytdkabbjknclifaa.Pure
end
section
namespace Go.Proofs.Ytdkabbjknclifaa.Pure
open Go.RowKit Go.Proofs.Ytdkabbjknclifaa.F Go.Proofs.YtdkabbjknclifaaW.PrintWords Go.Proofs.YtdkabbjknclifaaW.PrintLast
set_option linter.unusedVariables false
theorem lock_parse (a : ByteArray) (h : a.data.toList.length ≤ 100) : lock_Parse.f a = some (pres a.data.toList.length (parseL a.data.toList 0 false [])) := by
  unfold lock_Parse.f
  rw [if_pos h]
  cases hp : parseL a.data.toList 0 false [] with
  | inl i => rfl
  | inr p =>
    obtain ⟨b, l⟩ := p
    have hl := parseL_le _ _ _ _ _ _ hp
    simp only [pres]
    split
    · rfl
    · obtain ⟨F, hF⟩ : ∃ F, F = 4096 := ⟨_, rfl⟩
      have hl2 : l.length ≤ 100 := by have e : ([] : List Bool).length = 0 := rfl; omega
      rw [← hF, lock_check (by omega) b (by omega)]
      simp only [Option.bind_some]
      split <;> rfl
end Go.Proofs.Ytdkabbjknclifaa.Pure
end
section
namespace Go.Proofs.Ytdkabbjknclifaa.Pure
open Go.RowKit Go.Proofs.Ytdkabbjknclifaa.F Go.Proofs.YtdkabbjknclifaaW.PrintWords Go.Proofs.YtdkabbjknclifaaW.PrintLast
set_option linter.unusedVariables false
theorem pres_le (n : Nat) (s : Sum Nat (Bool × List Bool)) (h : ∀ b l, s = .inr (b, l) → l.length ≤ 100) : (pres n s).2.1.length ≤ 100 := by
  unfold pres
  split
  · simp
  · rename_i b l
    have := h b l rfl
    repeat' split
    all_goals simp
    all_goals omega
end Go.Proofs.Ytdkabbjknclifaa.Pure
end
section
namespace Go.Proofs.Ytdkabbjknclifaa.Pure
open Go.RowKit Go.Proofs.Ytdkabbjknclifaa.F Go.Proofs.YtdkabbjknclifaaW.PrintWords Go.Proofs.YtdkabbjknclifaaW.PrintLast
set_option linter.unusedVariables false
theorem byte_drop (a : ByteArray) (i : Nat) (h : i < a.data.toList.length) : ∃ c : UInt8, a.data.toList.drop i = c :: a.data.toList.drop (i + 1) ∧ bt a (i : Int) = (c.toNat : Int) := by
  have hs : i < a.size := h
  refine ⟨a[i], ?_, ?_⟩
  · rw [List.drop_eq_getElem_cons h]; rfl
  · have := bt_at a (i : Int) (by simpa using hs)
    rw [← this]
    rfl
end Go.Proofs.Ytdkabbjknclifaa.Pure
end
section
namespace Go.Proofs.Ytdkabbjknclifaa.Pure
open Go.RowKit Go.Proofs.Ytdkabbjknclifaa.F Go.Proofs.YtdkabbjknclifaaW.PrintWords Go.Proofs.YtdkabbjknclifaaW.PrintLast
set_option linter.unusedVariables false
theorem ref_l0 (a : ByteArray) (hn : a.data.toList.length ≤ 100) : ∀ (d k i : Nat) (b : Bool) (acc : List Bool), i + d = a.data.toList.length → acc.length ≤ i → 3 * d + 200 ≤ k →
    R17_Parse.l0 k a (i : Int) b acc = some (pres a.data.toList.length (parseL (a.data.toList.drop i) i b acc))
  | 0, k, i, b, acc, hi, ha, hk => by
    obtain ⟨k, rfl⟩ : ∃ j, k = j + 3 := ⟨k - 3, by omega⟩
    have hs : a.size = a.data.toList.length := rfl
    obtain rfl : i = a.data.toList.length := by omega
    simp only [R17_Parse.l0, R17_Parse.j1, R17_Parse.j2]
    rw [if_neg (by omega), List.drop_length]
    simp only [parseL, pres]
    by_cases h2 : a.data.toList.length < 2
    · rw [if_pos (decide_eq_true (by omega)), if_pos (by omega), if_pos trivial, if_pos h2]
    · rw [if_neg (by simp; omega), if_neg h2, ref_check (by omega) b (by omega)]
      simp only [Option.bind_some]
      split <;> rfl
  | d + 1, k, i, b, acc, hi, ha, hk => by
    obtain ⟨k, rfl⟩ : ∃ j, k = j + 3 := ⟨k - 3, by omega⟩
    have hs : a.size = a.data.toList.length := rfl
    obtain ⟨c, hd, hc⟩ := byte_drop a i (by omega)
    have ih : ∀ b' acc', acc'.length ≤ i + 1 → R17_Parse.l0 k a ((i + 1 : Nat) : Int) b' acc' = _ := fun b' acc' h => ref_l0 a hn d k (i + 1) b' acc' (by omega) h (by omega)
    have e120 : (bt a (i : Int) == 120) = decide (c = 120) := by
      rw [hc]
      by_cases h : c = 120
      · subst h; rfl
      · have : ¬ (c.toNat : Int) = 120 := fun e => h (UInt8.toNat_inj.mp (by show c.toNat = 120; omega))
        rw [decide_eq_false h]; exact beq_eq_false_iff_ne.mpr this
    have e111 : (bt a (i : Int) != 111) = !decide (c = 111) := by
      rw [hc]
      by_cases h : c = 111
      · subst h; rfl
      · have : ¬ (c.toNat : Int) = 111 := fun e => h (UInt8.toNat_inj.mp (by show c.toNat = 111; omega))
        rw [decide_eq_false h]; exact bne_iff_ne.mpr this
    have e124 : (bt a (i : Int) == 124) = decide (c = 124) := by
      rw [hc]
      by_cases h : c = 124
      · subst h; rfl
      · have : ¬ (c.toNat : Int) = 124 := fun e => h (UInt8.toNat_inj.mp (by show c.toNat = 124; omega))
        rw [decide_eq_false h]; exact beq_eq_false_iff_ne.mpr this
    have p120 : (bt a (i : Int) = 120) ↔ c = 120 := by
      have := e120
      constructor
      · intro h; rw [h] at this; simpa using this.symm
      · intro h; rw [h] at this; simpa using this
    simp only [R17_Parse.l0, R17_Parse.j1, R17_Parse.j2]
    rw [if_pos (by omega), if_pos trivial, if_neg (by omega), if_pos (by omega), if_pos (by omega), hd, e120, e111, e124, w64n (by omega)]
    by_cases i0 : i = 0
    · subst i0
      by_cases c120 : c = 120
      · rw [if_neg (by rw [c120]; decide), if_neg (by decide), if_pos (p120.mpr c120), if_neg (by decide), if_pos (by omega), if_pos (by decide), if_pos (by omega), ih _ _ (by omega)]
        simp [parseL, c120]
      · by_cases c111 : c = 111
        · rw [if_neg (by rw [c111]; decide), if_neg (by decide), if_neg (fun h => c120 (p120.mp h)), if_neg (by simp [c111]), if_pos (by omega), if_pos (by decide), if_pos (by omega), ih _ _ (by omega)]
          simp [parseL, c111]
        · by_cases c124 : c = 124
          · rw [if_pos (by rw [c124]; decide), if_pos trivial]
            simp [parseL, c124, pres]
          · rw [if_neg (by simp [c124]), if_neg (by decide), if_neg (fun h => c120 (p120.mp h)), if_pos (by simp [c111])]
            simp [parseL, c120, c111, pres]
    · by_cases i1 : i = 1
      · subst i1
        by_cases c124 : c = 124
        · rw [if_neg (by simp [c124]), if_pos (by omega), if_neg (by decide), if_neg (by decide), if_pos (by omega), ih _ _ (by omega)]
          simp [parseL, c124]
        · rw [if_pos (by simp [c124]), if_pos trivial]
          simp [parseL, c124, pres]
      · have hi1 : ((i : Int) == 1) = false := beq_eq_false_iff_ne.mpr (by omega)
        rw [hi1]
        by_cases c124 : c = 124
        · rw [if_pos (by simp [c124]), if_pos trivial]
          simp [parseL, c124, i0, i1, pres]
        · rw [if_neg (by simp [c124]), if_neg (by omega)]
          by_cases c120 : c = 120
          · rw [if_pos (p120.mpr c120), if_neg (by decide), if_neg (by omega), if_neg (by omega), if_pos (by omega), if_pos (by omega), if_pos (by omega), ih _ _ (by simp; omega)]
            simp [parseL, c120, i0, i1]
          · rw [if_neg (fun h => c120 (p120.mp h))]
            by_cases c111 : c = 111
            · rw [if_neg (by simp [c111]), if_neg (by omega), if_neg (by omega), if_pos (by omega), if_pos (by omega), if_pos (by omega), ih _ _ (by simp; omega)]
              simp [parseL, c111, i0, i1]
            · rw [if_pos (by simp [c111])]
              simp [parseL, c120, c111, i0, i1, pres]
end Go.Proofs.Ytdkabbjknclifaa.Pure
end
section
namespace Go.Proofs.Ytdkabbjknclifaa.Pure
open Go.RowKit Go.Proofs.Ytdkabbjknclifaa.F Go.Proofs.YtdkabbjknclifaaW.PrintWords Go.Proofs.YtdkabbjknclifaaW.PrintLast
set_option linter.unusedVariables false
theorem ref_parse (a : ByteArray) (h : a.data.toList.length ≤ 100) {k : Nat} (hk : 600 ≤ k) : R17_Parse.f k a = some (pres a.data.toList.length (parseL a.data.toList 0 false [])) := by
  unfold R17_Parse.f
  have := ref_l0 a h a.data.toList.length k 0 false [] (by omega) (by simp) (by omega)
  simpa using this
end Go.Proofs.Ytdkabbjknclifaa.Pure
end
section
namespace Go.Proofs.Ytdkabbjknclifaa.Pure
open Go.RowKit Go.Proofs.Ytdkabbjknclifaa.F Go.Proofs.YtdkabbjknclifaaW.PrintWords Go.Proofs.YtdkabbjknclifaaW.PrintLast
set_option linter.unusedVariables false
theorem LockReads : L17_LockReads.Pure := by
  intro a ha
  obtain ⟨k, hk⟩ : ∃ k, 2000 ≤ k := ⟨2000, Nat.le_refl _⟩
  refine ⟨k, ?_⟩
  unfold L17_LockReads.f
  have hs : a.size = a.data.toList.length := rfl
  by_cases hl : (a.size : Int) > 100
  · rw [if_pos hl, awake_true]; rfl
  · rw [if_neg hl, lock_parse a (by omega), ref_parse a (by omega) (by omega)]
    simp only [Option.bind_some]
    have h1 := pres_le a.data.toList.length (parseL a.data.toList 0 false []) (fun b l h => by have := parseL_le _ _ _ _ _ _ h; simp at this; omega)
    rw [same_chain (by omega) _ (by omega)]
    simp only [Option.bind_some, if_true, beq_self_eq_true, Bool.and_self]
    rw [awake_true]
    rfl
end Go.Proofs.Ytdkabbjknclifaa.Pure
end
section
/- The statement LockReads holds: the law's function answers true at every input, and the input reads as it did. No condition. (Written by fork.py over the kit's print.) -/
namespace Go.Proofs.Ytdkabbjknclifaa.lockReads
open Go.ChangeShapes Go.WideShapes Go.ChangeAt Go.RowKit
open Go.ChangeMaps (open_string shut_string)
set_option linter.unusedVariables false
theorem own : ownKnob Try.prog.godebug = none := by kernel_rfl
set_option maxRecDepth 100000 in
theorem lifted (os : Os) (started : os.Started) (H : Type) (enc : TypeId × Value → H) :
    ReturnsInHanded {} Try.checked os 3 .any (Rows.lockReadsSpec.pre6 enc Try.prog Try.f3 Rows.lockReadsRow.domain false) (Rows.lockReadsSpec.post enc Try.prog Try.f3 false true false false) := by
  refine returnsInHanded_of_change_sized (C := Try.checked) own started (by kernel_rfl) Try.func3
    (ChangeSpec.witness6 (enc := enc) (C := Try.checked) false ⟨#[], #[.string ByteArray.empty], []⟩ 8 (by kernel_rfl) (by kernel_rfl) (by kernel_rfl) (by kernel_rfl)) ?_
  intro W base args ds gs before hval0 hW hcnd hsz0 _
  have hsz : (DataW.weightsEach Try.prog (Try.f3.params.toList ++ Rows.lockReadsSpec.plain.varTypes Try.prog) (ds ++ gs)).all (· ≤ reachBytes) = true := hsz0
  have hval : ∀ (j : Nat) t v, Try.f3.params[j]? = some t → args[j]? = some v → Value.okWide Try.prog W .any base t v := hval0
  have hW' := hW
  obtain ⟨p, q, hA0, hV, rfl, hfz, hnd⟩ := hW
  have hA : DataW.TrodAll enc Try.prog W 0 (fun _ => true) true Try.f3.params.toList args.toList ds p := hA0
  rw [Try.params3] at hA hval hsz
  obtain ⟨v0, vs0, d0, ds0, p0, q0, hargs, rfl, rfl, h0, r0⟩ := trodAll_cons hA
  obtain ⟨rfl, rfl, rfl⟩ := trodAll_nil r0
  obtain rfl : args = #[v0] := by cases args; simp_all
  obtain ⟨rfl, rfl⟩ := trodVars_none hV
  obtain ⟨a0, rfl, rfl, rfl, y0⟩ := open_string Try.underlying9 (hval 0 9 v0 rfl rfl) h0
  have w0 : a0.size ≤ 140737488351232 := by
    have z := sized_string hsz (j := 0) (t := 9) rfl rfl
    rw [Array.length_toList] at z
    exact z
  clear hA0 hval0 hsz0 hsz
  refine (F.L17_LockReads.walk Pure.LockReads a0 W w0).mono fun e W' ⟨he, bel⟩ => ?_
  subst he
  exact ⟨_, rfl, _, _, _, [], _, [], hW', trodAll_mk1 (shut_bool Try.underlying4 _), (trodAll_cons_mk (shut_string Try.underlying9 y0) trodAll_mk0), rfl, bel.frame _, fun h => by cases h⟩
theorem over : Rows.lockReadsRow.holds Try.pinned (OpenSpec.ofChange Rows.lockReadsSpec) :=
  OpenClaim.holds_of_wide 3 Try.f3 rfl rfl rfl rfl rfl rfl rfl ⟨rfl, rfl, rfl, rfl, rfl⟩ rfl rfl rfl rfl rfl (by kernel_rfl) Try.func3 (by show joinedFacts Try.prog 3 Try.f3 Rows.lockReadsSpec Rows.lockReadsRow = true; unfold joinedFacts; rw [may_enter, lifts_not, make_cut]; kernel_rfl)
    (of_decide_eq_true (by kernel_rfl)) (by unfold Func.isWrapper; first | (rw [if_pos (by decide +kernel)]; kernel_rfl) | (rw [if_neg (by decide +kernel)]; exact ⟨rfl, rfl⟩))
    (fun os started H enc _ => lifted os started H enc)
theorem proved : Rows.LockReadsSaid := over
#print axioms proved
end Go.Proofs.Ytdkabbjknclifaa.lockReads
namespace Go.Proofs.Ytdkabbjknclifaa
/-- The row, under a short name, for the claim. -/
theorem lockReads_holds : Rows.LockReadsSaid := lockReads.proved
end Go.Proofs.Ytdkabbjknclifaa
end

/- A reckoner of Go code over told values: steps that look at no memory are true. -/
import Derived.Test.YtfnjijnaogbgmaaSx4
namespace Go.Sx
open Go Go.RowKit
set_option linter.unusedVariables false
set_option linter.unusedSimpArgs false
section
variable {P : Program} {E : Env} {S : Sg} {w : World}

theorem eqAV_shape {E : Env} {d : TD} {x y : AV} {b : SB} {vx vy : Value} (t : TypeId) (X Y : Operand) (h : eqAV E d x y = some b) (hx : VR S x vx) (hy : VR S y vy) :
    binOp .eql t vx vy = (do pure (.bool (← Op.equal t vx vy))) ∧ binOp .neq t vx vy = (do pure (.bool (!(← Op.equal t vx vy)))) ∧ ∀ op, (eqGuard op t X Y vx vy).run P w = .ok () w := by
  have key : (binOp .eql t vx vy = (do pure (.bool (← Op.equal t vx vy))) ∧ binOp .neq t vx vy = (do pure (.bool (!(← Op.equal t vx vy))))) ∧ (¬ (vx = .nilIface ∧ vy = .nilIface)) ∧ (¬ ∃ a b, vx = .agg a ∧ vy = .agg b) := by
    cases d <;> simp only [eqAV, reduceCtorEq] at h
    all_goals
      cases x <;> simp only [reduceCtorEq] at h <;> cases y <;> simp only [reduceCtorEq] at h <;> simp only [VR] at hx hy
    all_goals
      (try obtain ⟨_, _, _, rfl⟩ := hx); (try obtain ⟨_, _, _, rfl⟩ := hy); (try obtain ⟨_, _, rfl, _⟩ := hx); (try obtain ⟨_, _, rfl, _⟩ := hy); (try obtain ⟨_, rfl, _⟩ := hx); (try obtain ⟨_, rfl, _⟩ := hy); (try subst hx); (try subst hy)
      exact ⟨⟨rfl, rfl⟩, by simp, by simp⟩
  refine ⟨key.1.1, key.1.2, fun op => ?_⟩
  obtain ⟨_, h1, h2⟩ := key
  cases op <;> first | rfl | (cases vx <;> cases vy <;> first | rfl | (exact absurd ⟨rfl, rfl⟩ h1) | (exact absurd ⟨_, _, rfl, rfl⟩ h2))

theorem eqGuard_int (op : BinOp) (t : TypeId) (X Y : Operand) (k k' : IntKind) (a b : Int) : (eqGuard op t X Y (.int k a) (.int k' b)).run P w = .ok () w := by
  cases op <;> rfl
theorem eqGuard_str (op : BinOp) (t : TypeId) (X Y : Operand) (a b : ByteArray) : (eqGuard op t X Y (.string a) (.string b)).run P w = .ok () w := by
  cases op <;> rfl

theorem binA_ok (hE : EnvRows P E) {op : BinOp} {t : TypeId} {x y : AV} {vx vy : Value} {r : AV} {obs : Obs} (X Y : Operand) (h : binA E op t x y = some (r, obs)) (ho : allO obs) (hx : VR S x vx) (hy : VR S y vy) :
    ∃ v, (do eqGuard op t X Y vx vy; binOp op t vx vy).run P w = .ok v w ∧ VR S r v := by
  unfold binA at h
  split at h
  · rename_i k a
    simp only [VR] at hx
    subst hx
    split at h
    · rename_i k' b
      simp only [VR] at hy
      subst hy
      simp only [Sem.run_bind, eqGuard_int, Result.andThen]
      split at h
      · exact shft_ok h ho t
      · exact shft_ok h ho t
      · split at h
        · rename_i hk
          subst hk
          exact bin_ok h ho t
        · cases h
    · cases h
  · rename_i a
    simp only [VR] at hx
    subst hx
    split at h
    · rename_i b
      simp only [VR] at hy
      subst hy
      simp only [Sem.run_bind, eqGuard_str, Result.andThen]
      refine ⟨r.val, ?_⟩
      split at h <;> simp only [Option.some.injEq, Prod.mk.injEq, reduceCtorEq] at h <;> obtain ⟨rfl, rfl⟩ := h
      · exact ⟨by simp [AV.val, binOp, Op.stringOp, eqS], by simp [AV.val, VR]⟩
      · exact ⟨by simp [AV.val, binOp, Op.stringOp, eqS], by simp [AV.val, VR]⟩
      · simp only [allO, nI_eq, and_true] at ho
        exact ⟨by simp only [AV.val, binOp, Op.stringOp]; rw [if_neg (by have : IntKind.i64.max = 9223372036854775807 := by decide
                                                                         omega)]; simp, by simp [AV.val, VR]⟩
    · cases h
  · split at h
    · cases h
    · rename_i r' hr
      split at h
      · split at h
        · rename_i b hb
          simp only [Option.some.injEq, Prod.mk.injEq] at h
          obtain ⟨rfl, rfl⟩ := h
          obtain ⟨h1, h2, h3⟩ := eqAV_shape (P := P) (w := w) t X Y hb hx hy
          refine ⟨.bool b.d, ?_, by simp only [VR]⟩
          simp only [Sem.run_bind, h3, Result.andThen, h1, eqAV_ok hE hr hb hx hy]
          simp
        · cases h
      · split at h
        · rename_i b hb
          simp only [Option.some.injEq, Prod.mk.injEq] at h
          obtain ⟨rfl, rfl⟩ := h
          obtain ⟨h1, h2, h3⟩ := eqAV_shape (P := P) (w := w) t X Y hb hx hy
          refine ⟨.bool (!b.d), ?_, by simp only [VR, SB.d_map]⟩
          simp only [Sem.run_bind, h3, Result.andThen, h2, eqAV_ok hE hr hb hx hy]
          simp
        · cases h
      · cases h

theorem unA_ok {op : UnOp} {x r : AV} {v : Value} (h : unA op x = some r) (hx : VR S x v) : ∃ u, (Op.unary op v).run P w = .ok u w ∧ VR S r u := by
  refine ⟨r.val, ?_⟩
  cases op <;> simp only [unA, reduceCtorEq] at h <;> cases x <;> simp only [reduceCtorEq, Option.some.injEq] at h <;> subst h <;> simp only [VR] at hx <;> subst hx
  · exact ⟨by simp [Op.unary, Op.intArith, AV.val], by simp [AV.val, VR]⟩
  · exact ⟨by simp [Op.unary, Op.intBits, AV.val, bitsI], by simp [AV.val, VR]⟩
  · exact ⟨by simp [Op.unary, AV.val], by simp [AV.val, VR]⟩

theorem sz_of {t : TypeId} {r : TRow} (h : E.row t = some r) : E.sz t = r.size := by simp [Env.sz, h]
theorem row_of_sz {t : TypeId} {n : Nat} (h : E.sz t = n + 1) : ∃ r, E.row t = some r ∧ r.size = n + 1 := by
  unfold Env.sz at h
  split at h
  · rename_i r hr; exact ⟨r, hr, h⟩
  · cases h

theorem partA_ok (hE : EnvRows P E) {t : TypeId} {cs : List AV} {off : Nat} {r : AV} {vs : Array Value} (h : partA E t cs off = some r) (hx : VRs S cs vs.toList) :
    ∃ u, (part t vs off).run P w = .ok u w ∧ VR S r u := by
  unfold partA at h
  split at h
  · cases h
  · rename_i row hr
    split at h
    · rename_i hagg
      split at h
      · rename_i l hl
        obtain rfl := Option.some.inj h
        obtain ⟨h1, h2⟩ := hx.cut hl
        refine ⟨.agg (vs.extract off (off + row.size)), ?_, ?_⟩
        · simp [part, row_agg hE hr, hagg, row_size hE hr]
        · simp only [VR]
          refine ⟨_, rfl, ?_⟩
          simpa [Array.toList_extract] using h1
      · cases h
    · rename_i hagg
      split at h
      · rename_i v hv
        obtain rfl := Option.some.inj h
        obtain ⟨u, h1, h2⟩ := hx.nth hv
        exact ⟨u, by simp [part, row_agg hE hr, hagg, show vs[off]? = some u by simpa using h1], h2⟩
      · cases h

theorem nth_eq {α : Type} : ∀ (l : List α) (i : Nat), nth l i = l[i]?
  | [], i => by simp [nth]
  | a :: l, 0 => by simp [nth]
  | a :: l, i + 1 => by simp [nth, nth_eq l i]
theorem field_at {a : Array Field} {fs : List (Nat × TypeId)} {f : Nat} {off ft : Nat} (h : a.toList.map (fun f => (f.offset, f.type)) = fs) (hn : nth fs f = some (off, ft)) : ∃ fd, a[f]? = some fd ∧ fd.offset = off ∧ fd.type = ft := by
  subst h
  rw [nth_eq, List.getElem?_map] at hn
  cases hg : a.toList[f]? with
  | none => rw [hg] at hn; cases hn
  | some fd =>
    rw [hg] at hn
    simp only [Option.map_some, Option.some.injEq, Prod.mk.injEq] at hn
    exact ⟨fd, by simpa using hg, hn.1, hn.2⟩

theorem fieldA_ok (hE : EnvRows P E) {t : TypeId} {x r : AV} {f : Nat} {v : Value} (h : fieldA E t x f = some r) (hx : VR S x v) : ∃ u, (Instr.field t v f).run P w = .ok u w ∧ VR S r u := by
  unfold fieldA at h
  split at h
  · rename_i fs _ _ _ _ hr
    obtain ⟨desc, h1, h2⟩ := row_under (w := w) hE hr
    obtain ⟨a, rfl, ha⟩ := digest_st h2
    split at h
    · rename_i off ft hn
      obtain ⟨fd, h3, h4, h5⟩ := field_at ha hn
      split at h
      · rename_i cs
        simp only [VR] at hx
        obtain ⟨vs, rfl, hx⟩ := hx
        obtain ⟨u, h6, h7⟩ := partA_ok (w := w) hE h hx
        exact ⟨u, by simp [Instr.field, h1, h3, asAgg, h4, h5, h6], h7⟩
      · cases h
    · cases h
  · cases h

theorem add_none (g o j : Nat) : (⟨g, o, none⟩ : Addr).add j = ⟨g, o + j, none⟩ := by unfold Addr.add; split <;> simp_all
theorem fieldAddrA_ok (hE : EnvRows P E) {t : TypeId} {x r : AV} {f : Nat} {v : Value} (h : fieldAddrA E t x f = some r) (hx : VR S x v) : ∃ u, (Instr.fieldAt t v f).run P w = .ok u w ∧ VR S r u := by
  unfold fieldAddrA at h
  split at h
  · rename_i fs _ _ _ _ hr
    obtain ⟨desc, h1, h2⟩ := row_under (w := w) hE hr
    obtain ⟨a, rfl, ha⟩ := digest_st h2
    split at h
    · rename_i off ft hn
      obtain ⟨fd, h3, h4, h5⟩ := field_at ha hn
      split at h
      · cases h
      · rename_i n hsz
        obtain ⟨row, hrow, hsize⟩ := row_of_sz hsz
        subst h5
        split at h <;> first | (cases h; done) | (obtain rfl := Option.some.inj h)
        · simp only [VR] at hx
          obtain ⟨g, c, h6, rfl⟩ := hx
          refine ⟨.pointer (some ⟨g, _ + off, none⟩), ?_, by simp only [VR]; exact ⟨g, c, h6, rfl⟩⟩
          simp [Instr.fieldAt, h1, h3, Instr.sureAddr, fieldPlace, row_size hE hrow, hsize, add_none, h4]
        · simp only [VR] at hx
          obtain ⟨g, c, h6, rfl⟩ := hx
          refine ⟨.pointer (some ⟨g, _ + off, none⟩), ?_, by simp only [VR]; exact ⟨g, c, h6, by rw [Nat.add_assoc]⟩⟩
          simp [Instr.fieldAt, h1, h3, Instr.sureAddr, fieldPlace, row_size hE hrow, hsize, add_none, h4]
        · simp only [VR] at hx
          obtain ⟨a', h6, h7, rfl⟩ := hx
          refine ⟨.pointer (some ⟨a'.block, _ + off, none⟩), ?_, by simp only [VR]; exact ⟨a', h6, h7, by rw [Nat.add_assoc]⟩⟩
          simp [Instr.fieldAt, h1, h3, Instr.sureAddr, fieldPlace, row_size hE hrow, hsize, add_none, h4]
        · simp only [VR] at hx
          obtain ⟨g, vs, T, rfl, h6, h7⟩ := hx
          refine ⟨.pointer (some ⟨g, _ + off, none⟩), ?_, by simp only [VR]; exact ⟨g, vs, T, rfl, h6, h7⟩⟩
          simp [Instr.fieldAt, h1, h3, Instr.sureAddr, fieldPlace, row_size hE hrow, hsize, add_none, h4]
    · cases h
  · cases h

end
end Go.Sx

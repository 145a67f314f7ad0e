/- A reckoner of Go code over told values: a step whose run is shown by hand; characters as texts. -/
import Derived.Test.YtfnjijnaogbgmaaSx25
import Derived.Laws.Runes
import Derived.Scope
namespace Go.Sx
open Go Go.RowKit
set_option linter.unusedVariables false
set_option linter.unusedSimpArgs false
section
variable {G : Gl} {E : Env} {P : Program} {rs : List ResultVar}
/-- A step that looks at no memory, and what it gives. -/
theorem AM.pure {fr : List AV} {h : List Blk} {R rest : List Oper} {o : Oper} {k : List It} {x : AV} (hw : wantedA R fr o = .yes) (hnd : ∀ c, o.op ≠ .defer c)
    (hrun : ∀ S a w, FrR S fr a → ∃ v, (execOp a.eval o).run G.P w = .ok (.value v) w ∧ VR S x v) (h1 : AM G ⟨putO fr o.dst x, h, .ops R rest :: k⟩) : AM G ⟨fr, h, .ops R (o :: rest) :: k⟩ := by
  refine ⟨fun S a w hc => ?_⟩
  simp only [wpK]
  unfold wpListIn
  rw [if_pos (wantedA_yes hc.fr hw)]
  refine wpIn_of_wp hnd ?_
  obtain ⟨v, h2, h3⟩ := hrun S a w hc.fr
  unfold Oper.wp
  rw [h2]
  have := h1.go S (a.put o.dst v) w (hc.next (us := []) (.refl _) (fun _ _ => rfl) (fun _ _ => rfl) hc.rel o.dst h3)
  simp only [wpK] at this
  exact this
/-- A character as a text. -/
theorem AM.runeText (hG : GOk P G E rs) {fr : List AV} {h : List Blk} {R rest : List Oper} {o : Oper} {k : List It} {t : Nat} {src dst : TypeId} {kk : IntKind} {n : SI} {r1 r2 : TRow} (hw : wantedA R fr o = .yes) (hop : o.op = .convert src dst (.tmp t)) (hx : get fr t = .int kk n)
    (h1 : E.row src = some r1) (h2 : E.row dst = some r2) (h3 : r2.d = .str) (h4 : AM G ⟨putO fr o.dst (.str fun _ => Utf8.encode n.d), h, .ops R rest :: k⟩) : AM G ⟨fr, h, .ops R (o :: rest) :: k⟩ := by
  refine AM.pure hw (by rw [hop]; simp) (fun S a w hf => ?_) h4
  have he := hG.e
  subst he
  have hv := hf.get t
  rw [hx] at hv
  simp only [VR] at hv
  obtain ⟨d1, e1, _⟩ := (hG.ok.rows.rows _ _ h1).d
  obtain ⟨d2, e2, e3⟩ := (hG.ok.rows.rows _ _ h2).d
  rw [h3] at e3
  obtain rfl := digest_str e3
  refine ⟨.string (Utf8.encode n.d), ?_, by simp only [VR]⟩
  simp only [execOp, hop, Act.eval, hv]
  exact value_of' (run_convert_int_string w src dst kk n.d (by rw [e1]; rfl) e2)
end

/-- A scope of labels that no jump is made in. -/
theorem AM.scope {G : Gl} {fr : List AV} {h : List Blk} {c : Code} {k : List It} (h1 : AM G ⟨fr, h, .code c :: k⟩) (hr : G.round = none) : AM G ⟨fr, h, .code (.scope c) :: k⟩ := by
  have hFe : G.Fe = Fence.wide := by unfold Gl.Fe; rw [hr]
  refine ⟨fun S a w hc => ?_⟩
  have := h1.go S a w hc
  simp only [wpK] at this ⊢
  rw [hFe] at this ⊢
  refine wpIn_wide.2 (wp_scope_straight (wp_mono (wpIn_wide.1 this) ?_))
  intro e a w hq
  cases e <;> first | exact hq | exact absurd hq (wpK_goto (G.fin_goto _) _ a w)

/-! Rows are frozen. -/
mutual
def fz (ids : List Nat) (h : List Blk) : AV → AV
  | .sl id sz off len => if memN ids id = true then roOf h (.sl id sz off len) else .sl id sz off len
  | .agg cs => .agg (fzs ids h cs)
  | .tup cs => .tup (fzs ids h cs)
  | .fn f a b => .fn f (fzs ids h a) (fzs ids h b)
  | .iface t x => .iface t (fz ids h x)
  | .gd g x => .gd g (fz ids h x)
  | x => x
def fzs (ids : List Nat) (h : List Blk) : List AV → List AV
  | [] => []
  | x :: xs => fz ids h x :: fzs ids h xs
end
mutual
def fzO (ids : List Nat) (h : List Blk) : AV → Obs
  | .sl id sz off len => if memN ids id = true then slObs h (.sl id sz off len) else []
  | .agg cs => fzOs ids h cs
  | .tup cs => fzOs ids h cs
  | .fn f a b => fzOs ids h a ++ fzOs ids h b
  | .iface t x => fzO ids h x
  | .gd g x => fzO ids h x
  | x => []
def fzOs (ids : List Nat) (h : List Blk) : List AV → Obs
  | [] => []
  | x :: xs => fzO ids h x ++ fzOs ids h xs
end
def fzB (ids : List Nat) (h : List Blk) (b : Blk) : Blk :=
  match b with
  | .box T cs => .box T (fzs ids h cs)
  | b => b
def fzBO (ids : List Nat) (h : List Blk) (b : Blk) : Obs :=
  match b with
  | .box T cs => fzOs ids h cs
  | b => []
def fzH (ids : List Nat) (h : List Blk) : Nat → List Blk → List Blk
  | _, [] => []
  | i, b :: bs => (match memN ids i with | true => .dead | false => fzB ids h b) :: fzH ids h (i + 1) bs
def fzHO (ids : List Nat) (h : List Blk) : List Blk → Obs
  | [] => []
  | b :: bs => fzBO ids h b ++ fzHO ids h bs
section
variable {W : World} {S : Sg} {h : List Blk} {w : World}
mutual
theorem fz_ok (hr : Rel W S h w) (ids : List Nat) : (x : AV) → (v : Value) → VR S x v → allO (fzO ids h x) → VR (frzS S h ids w) (fz ids h x) v
  | .sl id sz off len, v, k, ho => by
    simp only [fz, fzO] at ho ⊢
    split
    · rename_i hm
      rw [if_pos hm] at ho
      exact roOf_ok hr k ho (by intro i hi; simp only [slOf, List.mem_singleton] at hi; subst hi; exact (memN_iff _ _).1 hm)
    · exact VR.mono (frz_le hr ids) _ _ k
  | .agg cs, v, k, ho => by
    simp only [fz, fzO, VR] at k ho ⊢
    obtain ⟨vs, h1, h2⟩ := k
    exact ⟨vs, h1, fzs_ok hr ids _ _ h2 ho⟩
  | .tup cs, v, k, ho => by
    simp only [fz, fzO, VR] at k ho ⊢
    obtain ⟨vs, h1, h2⟩ := k
    exact ⟨vs, h1, fzs_ok hr ids _ _ h2 ho⟩
  | .fn f a b, v, k, ho => by
    simp only [fz, fzO, VR, allO_append] at k ho ⊢
    obtain ⟨as, bs, h1, h2, h3⟩ := k
    exact ⟨as, bs, h1, fzs_ok hr ids _ _ h2 ho.1, fzs_ok hr ids _ _ h3 ho.2⟩
  | .iface t x, v, k, ho => by
    simp only [fz, fzO, VR] at k ho ⊢
    obtain ⟨y, h1, h2⟩ := k
    exact ⟨y, h1, fz_ok hr ids _ _ h2 ho⟩
  | .gd g x, v, k, ho => by
    simp only [fz, fzO, VR] at k ho ⊢
    exact ⟨fun hg => fz_ok hr ids _ _ (k.1 hg) ho, k.2⟩
  | .any, v, k, ho => VR.mono (frz_le hr ids) _ _ k
  | .und, v, k, ho => VR.mono (frz_le hr ids) _ _ k
  | .int _ _, v, k, ho => VR.mono (frz_le hr ids) _ _ k
  | .bool _, v, k, ho => VR.mono (frz_le hr ids) _ _ k
  | .str _, v, k, ho => VR.mono (frz_le hr ids) _ _ k
  | .nilp, v, k, ho => VR.mono (frz_le hr ids) _ _ k
  | .nilf, v, k, ho => VR.mono (frz_le hr ids) _ _ k
  | .nili, v, k, ho => VR.mono (frz_le hr ids) _ _ k
  | .nilm, v, k, ho => VR.mono (frz_le hr ids) _ _ k
  | .nils, v, k, ho => VR.mono (frz_le hr ids) _ _ k
  | .e0, v, k, ho => VR.mono (frz_le hr ids) _ _ k
  | .ptr _ _, v, k, ho => VR.mono (frz_le hr ids) _ _ k
  | .rowp _ _ _ _, v, k, ho => VR.mono (frz_le hr ids) _ _ k
  | .rop _ _ _ _, v, k, ho => VR.mono (frz_le hr ids) _ _ k
  | .fb _ _, v, k, ho => VR.mono (frz_le hr ids) _ _ k
  | .mp _, v, k, ho => VR.mono (frz_le hr ids) _ _ k
  | .ro _ _, v, k, ho => VR.mono (frz_le hr ids) _ _ k
theorem fzs_ok (hr : Rel W S h w) (ids : List Nat) : (xs : List AV) → (vs : List Value) → VRs S xs vs → allO (fzOs ids h xs) → VRs (frzS S h ids w) (fzs ids h xs) vs
  | [], vs, k, ho => by simpa only [fzs, VRs] using k
  | x :: xs, vs, k, ho => by
    simp only [fzs, fzOs, VRs, allO_append] at k ho ⊢
    obtain ⟨v, vs', h1, h2, h3⟩ := k
    exact ⟨v, vs', h1, fz_ok hr ids _ _ h2 ho.1, fzs_ok hr ids _ _ h3 ho.2⟩
end
theorem fzs_len (ids : List Nat) (h : List Blk) : ∀ xs : List AV, (fzs ids h xs).length = xs.length
  | [] => rfl
  | x :: xs => by simp [fzs, fzs_len ids h xs]
theorem fzs_get (ids : List Nat) (h : List Blk) : ∀ (xs : List AV) (i : Nat), get (fzs ids h xs) i = fz ids h (get xs i)
  | [], i => by simp [fzs, get, fz]
  | x :: xs, 0 => by simp [fzs, get]
  | x :: xs, i + 1 => by simpa [fzs, get] using fzs_get ids h xs i
theorem fzOs_get (ids : List Nat) (h : List Blk) : ∀ (xs : List AV) (i : Nat), allO (fzOs ids h xs) → allO (fzO ids h (get xs i))
  | [], i, ho => by simp [get, fzO, allO]
  | x :: xs, 0, ho => by simp only [fzOs, allO_append] at ho; simpa [get] using ho.1
  | x :: xs, i + 1, ho => by simp only [fzOs, allO_append] at ho; simpa [get] using fzOs_get ids h xs i ho.2
theorem fzH_len (ids : List Nat) (h : List Blk) : ∀ (l : List Blk) (i : Nat), (fzH ids h i l).length = l.length
  | [], i => rfl
  | b :: l, i => by simp [fzH, fzH_len ids h l (i + 1)]
theorem fzH_get (ids : List Nat) (h : List Blk) : ∀ (l : List Blk) (i j : Nat), hget (fzH ids h i l) j = if memN ids (i + j) = true then .dead else fzB ids h (hget l j)
  | [], i, j => by simp [fzH, hget, fzB]
  | b :: l, i, 0 => by
    simp only [fzH, hget, Nat.add_zero]
    cases memN ids i <;> simp
  | b :: l, i, j + 1 => by
    simp only [fzH, hget]
    rw [fzH_get ids h l (i + 1) j, show i + 1 + j = i + (j + 1) by omega]
theorem fzHO_get (ids : List Nat) (h : List Blk) : ∀ (l : List Blk) (j : Nat), allO (fzHO ids h l) → allO (fzBO ids h (hget l j))
  | [], j, ho => by simp [hget, fzBO, allO]
  | b :: l, 0, ho => by simp only [fzHO, allO_append] at ho; simpa [hget] using ho.1
  | b :: l, j + 1, ho => by simp only [fzHO, allO_append] at ho; simpa [hget] using fzHO_get ids h l j ho.2
end
def frzC (ids : List Nat) (fr : List AV) (h : List Blk) : (List AV × List Blk) × Obs := ((fzs ids h fr, fzH ids h 0 h), fzOs ids h fr ++ fzHO ids h h)
/-- Rows are read alone from here on. -/
theorem AM.frz {G : Gl} (ids : List Nat) {fr fr' : List AV} {h h' : List Blk} {k : List It} {o : Obs} (he : frzC ids fr h = ((fr', h'), o)) (ho : allO o) (h1 : AM G ⟨fr', h', k⟩) : AM G ⟨fr, h, k⟩ := by
  simp only [frzC, Prod.mk.injEq] at he
  obtain ⟨⟨rfl, rfl⟩, rfl⟩ := he
  rw [allO_append] at ho
  refine ⟨fun S a w hc => ?_⟩
  have hrel := frz_rel hc.rel ids
  have hal : ∀ id, alive (hget (fzH ids h 0 h) id) = true → alive (hget (hsets h (kill ids)) id) = true ∧ hget (hsets h (kill ids)) id = hget h id ∧ hget (fzH ids h 0 h) id = fzB ids h (hget h id) := by
    intro id ha
    rw [fzH_get, Nat.zero_add] at ha ⊢
    by_cases hm : memN ids id = true
    · rw [if_pos hm] at ha; simp [alive] at ha
    · rw [if_neg hm] at ha ⊢
      have hn : id ∉ ids := fun hh => hm ((memN_iff _ _).2 hh)
      rw [hget_kill, if_neg hn]
      refine ⟨?_, rfl, rfl⟩
      cases hg : hget h id <;> rw [hg] at ha <;> first | (simp [fzB, alive] at ha; done) | rfl
  refine h1.go (frzS S h ids w) a w ⟨⟨hrel.below, hrel.fv, ?_, ?_, ?_⟩, ?_, hc.le.trans (frz_le hc.rel ids), ?_, ⟨?_, ?_⟩, hc.defers.mono (frz_le hc.rel ids).F⟩
  · intro id ha
    obtain ⟨e1, e2, e3⟩ := hal id ha
    obtain ⟨r, e4, e5⟩ := hrel.blk id e1
    refine ⟨r, e4, ?_⟩
    rw [e3]
    rw [e2] at e5
    cases hg : hget h id with
    | box T cs =>
      rw [e3, hg] at ha
      obtain ⟨r', e6, e7⟩ := hc.rel.blk id (by rw [hg]; rfl)
      have : r' = r := by
        have e8 : S.σ id = some r := e4
        rw [e6] at e8
        exact Option.some.inj e8
      subst this
      rw [hg] at e7
      obtain ⟨g, c, cells, e9, e10, e11⟩ := e7
      refine ⟨g, c, cells, e9, e10, fzs_ok hc.rel ids _ _ e11 ?_⟩
      have := fzHO_get ids h h id ho.2
      rw [hg] at this
      exact this
    | dead => rw [hg] at e5; exact e5
    | row T K l => rw [hg] at e5; exact e5
    | iter s p => rw [hg] at e5; exact e5
    | map T K V l => rw [hg] at e5; exact e5
    | obj o => rw [hg] at e5; exact e5
  · intro id g c ha e
    exact hrel.own id g c (hal id ha).1 e
  · intro i j g c c' hi hj e1 e2
    exact hrel.inj i j g c c' (hal i hi).1 (hal j hj).1 e1 e2
  · intro b hb
    rw [frz_old hc.rel ids b hb]
    exact hc.old b hb
  · intro id hid
    simp only [fzH_len] at hid
    exact hc.fresh id hid
  · simp only [fzs_len]
    exact hc.fr.size
  · intro i
    simp only
    rw [fzs_get]
    exact fz_ok hc.rel ids _ _ (hc.fr.get i) (fzOs_get ids h fr i ho.1)

/-- An empty slice in a box is a row of one's own, without elements. -/
theorem AM.emptyRow {G : Gl} (id off : Nat) (T' : TypeId) (K : Kd) {T : TypeId} {cs : List AV} {fr : List AV} {h : List Blk} {k : List It} (hb : hget h id = .box T cs) (hid : id < h.length) (hn : nth cs off = some .nils)
    (h1 : AM G ⟨fr, hset (hset h h.length (.row T' K fun _ => [])) id (.box T (put cs off (.sl h.length K.size (.l 0) (.l 0)))), k⟩) : AM G ⟨fr, h, k⟩ := by
  refine ⟨fun S a w hc => ?_⟩
  have hf : S.σ h.length = none := hc.fresh _ (Nat.le_refl _)
  have hr1 := hc.rel.new (X := fun _ => False) ⟨rfl, rfl, rfl, Nat.le_refl _, fun _ _ _ => rfl⟩ (fun _ h => h) hf (b := .row T' K fun _ => []) (r := none) (by simp only [BRel]) (fun g c h => by cases h)
  have hle := upd_le (S := S) (r := none) hf
  have hne : id ≠ h.length := by omega
  have hb1 : hget (hset h h.length (.row T' K fun _ => [])) id = .box T cs := by rw [hget_hset, if_neg hne]; exact hb
  obtain ⟨r, e1, e2⟩ := hr1.blk id (by rw [hb1]; rfl)
  rw [hb1] at e2
  obtain ⟨g, c, cells, rfl, e3, e4⟩ := e2
  have hput : ∀ (cs : List AV) (off : Nat) (vs : List Value), nth cs off = some .nils → VRs ⟨upd S.σ h.length none, S.F⟩ cs vs → VRs ⟨upd S.σ h.length none, S.F⟩ (put cs off (.sl h.length K.size (.l 0) (.l 0))) vs := by
    intro cs
    induction cs with
    | nil => intro off vs hn; simp [nth] at hn
    | cons x cs ih =>
      intro off vs hn hv
      simp only [VRs] at hv
      obtain ⟨v, vs', rfl, e5, e6⟩ := hv
      cases off with
      | zero =>
        simp only [nth, Option.some.injEq] at hn
        subst hn
        simp only [put, VRs]
        refine ⟨v, vs', rfl, ?_, e6⟩
        simp only [VR] at e5 ⊢
        exact ⟨none, by simp [upd], rfl, rfl, none, e5⟩
      | succ off =>
        simp only [put, VRs]
        exact ⟨v, vs', rfl, e5, ih off vs' hn e6⟩
  have hr2 := hr1.write (by rw [hb1]; rfl) e1 (Chg.refl w _) (b := .box T (put cs off (.sl h.length K.size (.l 0) (.l 0)))) ⟨g, c, cells, rfl, e3, hput cs off _ hn e4⟩
  refine h1.go _ a w ⟨hr2, hc.old, hc.le.trans hle, ?_, hc.fr.mono hle, hc.defers.mono hle.F⟩
  intro i hi
  simp only [hset_length] at hi
  have : i ≠ h.length := by omega
  simp only [upd, if_neg this]
  exact hc.fresh i (by simp only; omega)
end Go.Sx

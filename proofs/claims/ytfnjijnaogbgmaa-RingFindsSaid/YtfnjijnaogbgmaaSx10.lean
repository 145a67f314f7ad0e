/- A reckoner of Go code over told values: memory. -/
import Derived.Test.YtfnjijnaogbgmaaSx9
namespace Go.Sx
open Go Go.RowKit
set_option linter.unusedVariables false
set_option linter.unusedSimpArgs false

def alive : Blk → Bool
  | .dead => false
  | _ => true
/-- Elements lie in cells. -/
def RowAt (F : Frozen) (K : Kd) (cells : Array Value) (l : List K.T) : Prop :=
  ∀ (i : Nat) (x : K.T), l[i]? = some x → ∃ vs, KR F K x vs ∧ ∀ (j : Nat) (v : Value), vs[j]? = some v → cells[i * K.size + j]? = some v
/-- A value of a kind, as it stands alone. -/
def KV (F : Frozen) (K : Kd) (x : K.T) (v : Value) : Prop :=
  match K with
  | .struct fs => ∃ cs, v = .agg cs ∧ KRs F fs x cs.toList
  | K => KR F K x [v]
def MapR (F : Frozen) (K V : Kd) (es : Array MapEntry) (l : List (K.T × V.T)) : Prop :=
  es.size = l.length ∧ ∀ (i : Nat) (e : MapEntry) (kv : K.T × V.T), es[i]? = some e → l[i]? = some kv → e.born = i ∧ KV F K kv.1 e.key ∧ KV F V kv.2 e.val
def BRel (S : Sg) (b : Blk) (r : Option (Nat × Nat)) (w : World) : Prop :=
  match b with
  | .dead => True
  | .box T cs => ∃ g c cells, r = some (g, c) ∧ w.heap[g]? = some (.cells cells T (0, 0)) ∧ VRs S cs cells.toList
  | .row T K l =>
    match r with
    | none => l () = []
    | some (g, c) => ∃ cells, w.heap[g]? = some (.cells cells T (0, 0)) ∧ cells.size = c * K.size ∧ (l ()).length ≤ c ∧ c ≤ maxLen ∧ RowAt S.F K cells (l ())
  | .iter s p => ∃ g c, r = some (g, c) ∧ w.heap[g]? = some (.stringIter (s ()) (p ()))
  | .map T K V l => ∃ g c es, r = some (g, c) ∧ w.heap[g]? = some (.map es es.size) ∧ MapR S.F K V es (l ())
  | .obj o => ∃ g c, r = some (g, c) ∧ w.heap[g]? = some (o ())
structure Rel (W : World) (S : Sg) (h : List Blk) (w : World) : Prop where
  below : Below W.heap.size W w
  fv : FV S.F w
  blk : ∀ id, alive (hget h id) = true → ∃ r, S.σ id = some r ∧ BRel S (hget h id) r w
  own : ∀ id g c, alive (hget h id) = true → S.σ id = some (some (g, c)) → W.heap.size ≤ g ∧ S.F g = none
  inj : ∀ id id' g c c', alive (hget h id) = true → alive (hget h id') = true → S.σ id = some (some (g, c)) → S.σ id' = some (some (g, c')) → id = id'

theorem hget_hset : ∀ (h : List Blk) (n m : Nat) (b : Blk), hget (hset h n b) m = if m = n then b else hget h m
  | [], 0, 0, b => by simp [hset, hget]
  | [], 0, m + 1, b => by simp [hset, hget]
  | [], n + 1, 0, b => by simp [hset, hget]
  | [], n + 1, m + 1, b => by simp only [hset, hget]; rw [hget_hset [] n m b]; simp [hget]
  | a :: h, 0, 0, b => by simp [hset, hget]
  | a :: h, 0, m + 1, b => by simp [hset, hget]
  | a :: h, n + 1, 0, b => by simp [hset, hget]
  | a :: h, n + 1, m + 1, b => by simp only [hset, hget]; rw [hget_hset h n m b]; simp
theorem hset_length : ∀ (h : List Blk) (n : Nat) (b : Blk), (hset h n b).length = max h.length (n + 1)
  | [], 0, b => by simp [hset]
  | [], n + 1, b => by simp [hset, hset_length [] n b]
  | a :: h, 0, b => by simp only [hset, List.length_cons]; omega
  | a :: h, n + 1, b => by simp only [hset, List.length_cons, hset_length h n b]; omega

theorem RowAt.monoW {F F' : Frozen} {K : Kd} {cells : Array Value} {l : List K.T} (h : RowAt F K cells l) (hF : FLw F F') : RowAt F' K cells l := by
  intro i x hx
  obtain ⟨vs, h1, h2⟩ := h i x hx
  exact ⟨vs, KR.monoW hF _ _ _ h1, h2⟩
theorem KV.monoW {F F' : Frozen} {K : Kd} {x : K.T} {v : Value} (h : KV F K x v) (hF : FLw F F') : KV F' K x v := by
  cases K with
  | struct fs => obtain ⟨cs, h1, h2⟩ := h; exact ⟨cs, h1, KRs.monoW hF _ _ _ h2⟩
  | int k => exact KR.monoW hF _ _ _ h
  | bool => exact KR.monoW hF _ _ _ h
  | str => exact KR.monoW hF _ _ _ h
  | slice e => exact KR.monoW hF _ _ _ h
theorem MapR.monoW {F F' : Frozen} {K V : Kd} {es : Array MapEntry} {l : List (K.T × V.T)} (h : MapR F K V es l) (hF : FLw F F') : MapR F' K V es l :=
  ⟨h.1, fun i e kv h1 h2 => ⟨(h.2 i e kv h1 h2).1, (h.2 i e kv h1 h2).2.1.monoW hF, (h.2 i e kv h1 h2).2.2.monoW hF⟩⟩
theorem BRel.monoW {S S' : Sg} {b : Blk} {r : Option (Nat × Nat)} {w w' : World} (h : BRel S b r w) (hS : S.lw S') (hw : ∀ g c, r = some (g, c) → w'.heap[g]? = w.heap[g]?) : BRel S' b r w' := by
  cases b with
  | dead => trivial
  | box T cs =>
    obtain ⟨g, c, cells, h1, h2, h3⟩ := h
    exact ⟨g, c, cells, h1, (hw g c h1).trans h2, VRs.monoW hS _ _ h3⟩
  | row T K l =>
    cases r with
    | none => exact h
    | some p =>
      obtain ⟨g, c⟩ := p
      obtain ⟨cells, h1, h2, h3, h4, h5⟩ := h
      exact ⟨cells, (hw g c rfl).trans h1, h2, h3, h4, h5.monoW hS.F⟩
  | iter s p =>
    obtain ⟨g, c, h1, h2⟩ := h
    exact ⟨g, c, h1, (hw g c h1).trans h2⟩
  | map T K V l =>
    obtain ⟨g, c, es, h1, h2, h3⟩ := h
    exact ⟨g, c, es, h1, (hw g c h1).trans h2, h3.monoW hS.F⟩
  | obj o =>
    obtain ⟨g, c, h1, h2⟩ := h
    exact ⟨g, c, h1, (hw g c h1).trans h2⟩

theorem RowAt.mono {F F' : Frozen} {K : Kd} {cells : Array Value} {l : List K.T} (h : RowAt F K cells l) (hF : FLe F F') : RowAt F' K cells l := h.monoW hF.w
theorem KV.mono {F F' : Frozen} {K : Kd} {x : K.T} {v : Value} (h : KV F K x v) (hF : FLe F F') : KV F' K x v := h.monoW hF.w
theorem MapR.mono {F F' : Frozen} {K V : Kd} {es : Array MapEntry} {l : List (K.T × V.T)} (h : MapR F K V es l) (hF : FLe F F') : MapR F' K V es l := h.monoW hF.w
theorem BRel.mono {S S' : Sg} {b : Blk} {r : Option (Nat × Nat)} {w w' : World} (h : BRel S b r w) (hS : S.le S') (hw : ∀ g c, r = some (g, c) → w'.heap[g]? = w.heap[g]?) : BRel S' b r w' := h.monoW hS.w hw
/-- Only blocks of X are written. -/
structure Chg (w w' : World) (X : Nat → Prop) : Prop where
  os : w'.os = w.os
  tape : w'.tape = w.tape
  output : w'.output = w.output
  size : w.heap.size ≤ w'.heap.size
  block : ∀ k, k < w.heap.size → ¬ X k → w'.heap[k]? = w.heap[k]?
theorem Chg.below {W w w' : World} {X : Nat → Prop} (h : Chg w w' X) (hb : Below W.heap.size W w) (hX : ∀ k, X k → W.heap.size ≤ k) : Below W.heap.size W w' :=
  ⟨h.os.trans hb.os, h.tape.trans hb.tape, h.output.trans hb.output, Nat.le_trans hb.size h.size, fun k hk => (h.block k (Nat.lt_of_lt_of_le hk hb.size) (fun hx => by have := hX k hx; omega)).trans (hb.block k hk)⟩
theorem Chg.alloc (w : World) (o : Obj) : Chg w (w.alloc o) (fun _ => False) :=
  ⟨rfl, rfl, rfl, by simp, fun k hk _ => Below.heap_alloc w o k hk⟩
theorem Chg.drew {w w' : World} {X : Nat → Prop} (h : Chg w w' X) : Chg w w'.drew X := ⟨h.os, h.tape, h.output, h.size, h.block⟩
theorem Chg.setRow (w : World) (g : Nat) (cs : Array Value) : Chg w (w.setRow g cs) (fun k => k = g) :=
  ⟨rfl, rfl, rfl, by simp, fun k hk hne => setRow_other w g k cs hne⟩
theorem FV.chg {F : Frozen} {w w' : World} {X : Nat → Prop} (h : FV F w) (hc : Chg w w' X) (hX : ∀ k, X k → F k = none) : FV F w' := by
  intro b o hb
  have h1 := h b o hb
  have hlt : b < w.heap.size := (Array.getElem?_eq_some_iff.1 h1).1
  rw [hc.block b hlt (fun hx => by rw [hX b hx] at hb; cases hb)]
  exact h1

theorem BRel.lt {S : Sg} {b : Blk} {g c : Nat} {w : World} (ha : alive b = true) (h : BRel S b (some (g, c)) w) : g < w.heap.size := by
  cases b with
  | dead => simp [alive] at ha
  | box T cs =>
    obtain ⟨g', c', cells, h1, h2, h3⟩ := h
    cases h1
    exact (Array.getElem?_eq_some_iff.1 h2).1
  | row T K l =>
    obtain ⟨cells, h1, _⟩ := h
    exact (Array.getElem?_eq_some_iff.1 h1).1
  | iter s p =>
    obtain ⟨g', c', h1, h2⟩ := h
    cases h1
    exact (Array.getElem?_eq_some_iff.1 h2).1
  | map T K V l =>
    obtain ⟨g', c', es, h1, h2, h3⟩ := h
    cases h1
    exact (Array.getElem?_eq_some_iff.1 h2).1
  | obj o =>
    obtain ⟨g', c', h1, h2⟩ := h
    cases h1
    exact (Array.getElem?_eq_some_iff.1 h2).1

section
variable {W w w' : World} {S : Sg} {h : List Blk}

theorem Rel.σ_of_alive (hr : Rel W S h w) {id : Nat} (ha : alive (hget h id) = true) : S.σ id ≠ none := by
  obtain ⟨r, h1, _⟩ := hr.blk id ha
  rw [h1]; simp

def upd (σ : Nat → Option (Option (Nat × Nat))) (n : Nat) (r : Option (Nat × Nat)) : Nat → Option (Option (Nat × Nat)) := fun i => if i = n then some r else σ i
theorem upd_le {n : Nat} {r : Option (Nat × Nat)} (hn : S.σ n = none) : S.le ⟨upd S.σ n r, S.F⟩ := by
  refine ⟨fun id r' h => ?_, .refl _⟩
  simp only [upd]
  by_cases e : id = n
  · subst e; rw [hn] at h; cases h
  · rw [if_neg e]; exact h

/-- A new block. -/
theorem Rel.new (hr : Rel W S h w) {X : Nat → Prop} (hc : Chg w w' X) (hX : ∀ k, X k → False) {n : Nat} (hn : S.σ n = none) {b : Blk} {r : Option (Nat × Nat)}
    (hb : BRel ⟨upd S.σ n r, S.F⟩ b r w') (hg : ∀ g c, r = some (g, c) → w.heap.size ≤ g) : Rel W ⟨upd S.σ n r, S.F⟩ (hset h n b) w' := by
  have hdead : alive (hget h n) = false := by
    cases ha : alive (hget h n) with
    | false => rfl
    | true => exact absurd hn (hr.σ_of_alive ha)
  have hF : ∀ g c, r = some (g, c) → S.F g = none := by
    intro g c hgc
    cases hf : S.F g with
    | none => rfl
    | some o =>
      have := (Array.getElem?_eq_some_iff.1 (hr.fv g o hf)).1
      have := hg g c hgc
      omega
  refine ⟨hc.below hr.below (fun k hk => (hX k hk).elim), hr.fv.chg hc (fun k hk => (hX k hk).elim), ?_, ?_, ?_⟩
  · intro id ha
    rw [hget_hset] at ha ⊢
    by_cases e : id = n
    · subst e
      rw [if_pos rfl]
      exact ⟨r, by simp [upd], hb⟩
    · rw [if_neg e] at ha ⊢
      obtain ⟨r', h1, h2⟩ := hr.blk id ha
      refine ⟨r', by simp [upd, e, h1], h2.mono (upd_le hn) fun g c hgc => ?_⟩
      subst hgc
      exact hc.block g (h2.lt ha) (fun hx => hX g hx)
  · intro id g c ha hσ
    rw [hget_hset] at ha
    simp only [upd] at hσ
    by_cases e : id = n
    · rw [if_pos e] at hσ
      have hrr := Option.some.inj hσ
      exact ⟨Nat.le_trans hr.below.size (hg g c hrr), hF g c hrr⟩
    · rw [if_neg e] at hσ ha
      exact hr.own id g c ha hσ
  · intro id id' g c c' ha ha' hσ hσ'
    rw [hget_hset] at ha ha'
    simp only [upd] at hσ hσ'
    by_cases e : id = n <;> by_cases e' : id' = n
    · rw [e, e']
    · rw [if_pos e] at hσ
      rw [if_neg e'] at hσ' ha'
      have := hg g c (Option.some.inj hσ)
      obtain ⟨r', h1, h2⟩ := hr.blk id' ha'
      rw [hσ'] at h1
      cases h1
      have := h2.lt ha'
      omega
    · rw [if_pos e'] at hσ'
      rw [if_neg e] at hσ ha
      have := hg g c' (Option.some.inj hσ')
      obtain ⟨r', h1, h2⟩ := hr.blk id ha
      rw [hσ] at h1
      cases h1
      have := h2.lt ha
      omega
    · rw [if_neg e] at hσ ha
      rw [if_neg e'] at hσ' ha'
      exact hr.inj id id' g c c' ha ha' hσ hσ'

/-- A block that is there is written. -/
theorem Rel.write (hr : Rel W S h w) {n g c : Nat} (ha : alive (hget h n) = true) (hσ : S.σ n = some (some (g, c))) (hc : Chg w w' (fun k => k = g)) {b : Blk} (hb : BRel S b (some (g, c)) w') : Rel W S (hset h n b) w' := by
  obtain ⟨ho1, ho2⟩ := hr.own n g c ha hσ
  refine ⟨hc.below hr.below (fun k hk => by rw [hk]; exact ho1), hr.fv.chg hc (fun k hk => by rw [hk]; exact ho2), ?_, ?_, ?_⟩
  · intro id ha'
    rw [hget_hset] at ha' ⊢
    by_cases e : id = n
    · subst e
      rw [if_pos rfl]
      exact ⟨_, hσ, hb⟩
    · rw [if_neg e] at ha' ⊢
      obtain ⟨r', h1, h2⟩ := hr.blk id ha'
      refine ⟨r', h1, h2.mono (.refl _) fun g' c' hgc => ?_⟩
      subst hgc
      refine hc.block g' (h2.lt ha') fun hx => ?_
      subst hx
      exact e (hr.inj id n g' c' c ha' ha h1 hσ)
  · intro id g' c' ha' hσ'
    rw [hget_hset] at ha'
    by_cases e : id = n
    · subst e; exact hr.own id g' c' ha hσ'
    · rw [if_neg e] at ha'; exact hr.own id g' c' ha' hσ'
  · intro id id' g' c1 c2 ha1 ha2 hσ1 hσ2
    rw [hget_hset] at ha1 ha2
    have a1 : alive (hget h id) = true := by
      by_cases e : id = n
      · rw [e]; exact ha
      · rw [if_neg e] at ha1; exact ha1
    have a2 : alive (hget h id') = true := by
      by_cases e : id' = n
      · rw [e]; exact ha
      · rw [if_neg e] at ha2; exact ha2
    exact hr.inj id id' g' c1 c2 a1 a2 hσ1 hσ2

/-- A block is forgotten. -/
theorem Rel.forget (hr : Rel W S h w) (n : Nat) : Rel W S (hset h n .dead) w := by
  refine ⟨hr.below, hr.fv, ?_, ?_, ?_⟩
  · intro id ha
    rw [hget_hset] at ha ⊢
    by_cases e : id = n
    · rw [if_pos e] at ha; simp [alive] at ha
    · rw [if_neg e] at ha ⊢; exact hr.blk id ha
  · intro id g c ha hσ
    rw [hget_hset] at ha
    by_cases e : id = n
    · rw [if_pos e] at ha; simp [alive] at ha
    · rw [if_neg e] at ha; exact hr.own id g c ha hσ
  · intro id id' g c c' ha ha' hσ hσ'
    rw [hget_hset] at ha ha'
    by_cases e : id = n
    · rw [if_pos e] at ha; simp [alive] at ha
    · by_cases e' : id' = n
      · rw [if_pos e'] at ha'; simp [alive] at ha'
      · rw [if_neg e] at ha; rw [if_neg e'] at ha'; exact hr.inj id id' g c c' ha ha' hσ hσ'
end
end Go.Sx

/- A reckoner of Go code over told values: regions that draw their order, order for order. -/
import Derived.Test.YtfnjijnaogbgmaaSx33
namespace Go.Sx
open Go Go.RowKit
set_option linter.unusedVariables false

/-- The orders in which a region's operations may be taken. -/
def ordsGo (ops : Array Oper) : Nat → Array Bool → List (List Nat)
  | 0, _ => [[]]
  | fuel + 1, listed =>
    match Region.ready .any ops listed with
    | [] => [[]]
    | i :: rs => (i :: rs).flatMap fun i => (ordsGo ops fuel (listed.setIfInBounds i true)).map (i :: ·)
theorem ords_mem (ops : Array Oper) : ∀ (fuel t : Nat) (listed : Array Bool) (acc : List Nat), Region.linearise.go .any ops fuel t listed acc ∈ (ordsGo ops fuel listed).map (acc.reverse ++ ·)
  | 0, t, listed, acc => by simp [Region.linearise.go, ordsGo]
  | fuel + 1, t, listed, acc => by
    have hrs : ((List.range ops.size).filter fun i => !listed.getD i true && ((ops[i]?).map (·.after.all fun e => !Region.binds .any e || listed.getD e.on false)).getD false) = Region.ready .any ops listed := rfl
    simp only [Region.linearise.go]
    rw [hrs]
    simp only [ordsGo]
    generalize Region.ready .any ops listed = rs
    cases rs with
    | nil => simp
    | cons i rs =>
      have hlt : t % (i :: rs).length < (i :: rs).length := Nat.mod_lt _ (by simp)
      rw [List.getElem?_eq_getElem hlt]
      simp only
      have ih := ords_mem ops fuel (t / (i :: rs).length) (listed.setIfInBounds (i :: rs)[t % (i :: rs).length] true) ((i :: rs)[t % (i :: rs).length] :: acc)
      obtain ⟨l, h1, h2⟩ := List.mem_map.1 ih
      refine List.mem_map.2 ⟨(i :: rs)[t % (i :: rs).length] :: l, List.mem_flatMap.2 ⟨_, List.getElem_mem hlt, List.mem_map.2 ⟨l, h1, rfl⟩⟩, ?_⟩
      rw [← h2]
      simp
theorem wpOps_of_list {F : Fence} {n : Nat} {P : Program} {ops : Array Oper} {Q : Exit → Act → World → Prop} : ∀ (l : List Nat) (a : Act) (w : World), wpListIn F n P ops Q (l.filterMap (ops[·]?)) a w → wpOpsIn F n P ops Q l a w
  | [], a, w, h => h
  | i :: l, a, w, h => by
    unfold wpOpsIn
    cases hi : ops[i]? with
    | none =>
      rw [List.filterMap_cons_none hi] at h
      exact wpOps_of_list l a w h
    | some o =>
      rw [List.filterMap_cons_some hi] at h
      unfold wpListIn at h
      simp only
      split
      · rename_i hw
        rw [if_pos hw] at h
        exact Oper.wpIn_mono (fun a w => wpOps_of_list l a w) h
      · rename_i hw
        rw [if_neg hw] at h
        exact ⟨h.1, wpOps_of_list l _ _ h.2⟩
/-- A region that draws its order: each order leads on. -/
theorem AM.orders {P : Program} {G : Gl} {E : Env} {rs : List ResultVar} (hG : GOk P G E rs) {fr : List AV} {h : List Blk} {k : List It} {id : Nat} {ops : Array Oper} {L : List (List Nat)} (hL : ordsGo ops ops.size (Array.replicate ops.size false) = L)
    (h1 : ∀ l ∈ L, AM G ⟨fr, h, .ops ops.toList (l.filterMap (ops[·]?)) :: k⟩) : AM G ⟨fr, h, .code (.region id ops true) :: k⟩ := by
  refine ⟨fun S a w hc => ?_⟩
  simp only [wpK]
  refine wpIn_region_draw fun t => ?_
  have hm := hG.ok.mixed
  rw [Region.schedule, hm, Bool.true_or, if_pos rfl, Region.linearise]
  obtain ⟨l, hl, e⟩ := List.mem_map.1 (ords_mem ops ops.size t (Array.replicate ops.size false) [])
  simp only [List.reverse_nil, List.nil_append] at e
  rw [← e]
  refine wpOps_of_list l _ _ ?_
  have := (h1 l (hL ▸ hl)).go S a { w with drawn := w.drawn + 1 } ⟨⟨hc.rel.below.drew, hc.rel.fv, hc.rel.blk, hc.rel.own, hc.rel.inj⟩, hc.old, hc.le, hc.fresh, hc.fr, hc.defers⟩
  simpa only [wpK, Array.toArray_toList] using this
end Go.Sx

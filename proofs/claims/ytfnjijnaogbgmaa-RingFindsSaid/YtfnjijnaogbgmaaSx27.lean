/- A reckoner of Go code over told values: empty slices in slots. -/
import Derived.Test.YtfnjijnaogbgmaaSx26
namespace Go.Sx
open Go Go.RowKit
set_option linter.unusedVariables false
set_option linter.unusedSimpArgs false

/-- An empty slice in a slot is a row of one's own, without elements. -/
theorem AM.emptySlot {G : Gl} (t : Nat) (T' : TypeId) (K : Kd) {fr : List AV} {h : List Blk} {k : List It} (hn : get fr t = .nils)
    (h1 : AM G ⟨put fr t (.sl h.length K.size (.l 0) (.l 0)), hset h h.length (.row T' K fun _ => []), k⟩) : AM G ⟨fr, h, k⟩ := by
  refine ⟨fun S a w hc => ?_⟩
  have hf : S.σ h.length = none := hc.fresh _ (Nat.le_refl _)
  have hr1 := hc.rel.new (X := fun _ => False) ⟨rfl, rfl, rfl, Nat.le_refl _, fun _ _ _ => rfl⟩ (fun _ h => h) hf (b := .row T' K fun _ => []) (r := none) (by simp only [BRel]) (fun g c h => by cases h)
  have hle := upd_le (S := S) (r := none) hf
  have hfr : FrR ⟨upd S.σ h.length none, S.F⟩ fr a := hc.fr.mono hle
  refine h1.go _ a w ⟨hr1, hc.old, hc.le.trans hle, ?_, hfr.one t ?_, hc.defers.mono hle.F⟩
  · intro i hi
    simp only [hset_length] at hi
    have : i ≠ h.length := by omega
    simp only [upd, if_neg this]
    exact hc.fresh i (by simp only; omega)
  · have hv := hc.fr.get t
    simp only at hv
    rw [hn] at hv
    simp only [VR] at hv ⊢
    exact ⟨none, by simp [upd], rfl, rfl, none, hv⟩
/-- A region that draws its order, by itself. -/
theorem AM.draw {P : Program} {G : Gl} {E : Env} {rs : List ResultVar} (hG : GOk P G E rs) {fr fr' : List AV} {h h' : List Blk} {k : List It} {id : Nat} {ops : Array Oper} {ds : List DR} {obs : Obs} {ff : List FL} (hd : drun E ops.toList ops.toList fr h = some (ds, obs, fr', h'))
    (hff : flags ds = ff) (hok : dok ops.toList ff = true) (ho : allO obs) (h1 : AM G ⟨fr', h', k⟩) : AM G ⟨fr, h, .code (.region id ops true) :: k⟩ := by
  have he := hG.e
  subst he
  subst hff
  refine ⟨fun S a w hc => ?_⟩
  simp only [wpK]
  exact draw_ok hG.ok hc hd hok ho fun S' a' w' hc' => h1.go S' a' w' hc'
end Go.Sx

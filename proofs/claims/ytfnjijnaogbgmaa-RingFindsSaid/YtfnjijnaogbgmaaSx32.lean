/- A reckoner of Go code over told values: boxes that are read alone from here on. -/
import Derived.Test.YtfnjijnaogbgmaaSx28
namespace Go.Sx
open Go Go.RowKit
set_option linter.unusedVariables false
/-- What a slot holds is told by what it reads as, from here on; its boxes and rows are given up. -/
theorem AM.frzV {G : Gl} (t : Nat) {fr : List AV} {h h' : List Blk} {k : List It} {y : AV} {o : Obs} (hy : vB 6 h (get fr t) = y) (hh : hsets h (kill (vI 6 h (get fr t))) = h') (hO : vO 6 h (get fr t) = o) (ho : allO o) (h1 : AM G ⟨put fr t y, h', k⟩) : AM G ⟨fr, h, k⟩ := by
  subst hy
  subst hh
  subst hO
  refine ⟨fun S a w hc => ?_⟩
  have hrel := frz_rel hc.rel (vI 6 h (get fr t))
  have hle := frz_le hc.rel (vI 6 h (get fr t))
  refine h1.go (frzS S h (vI 6 h (get fr t)) w) a w ⟨hrel, ?_, hc.le.trans hle, ?_, ?_, hc.defers.mono hle.F⟩
  · intro b hb
    rw [frz_old hc.rel _ b hb]
    exact hc.old b hb
  · intro id hid
    exact hc.fresh id (hsets_length _ _ _ hid).1
  · exact (hc.fr.mono hle).one t (vB_ok hc.rel 6 _ _ (hc.fr.get t) ho (fun _ h => h))
end Go.Sx

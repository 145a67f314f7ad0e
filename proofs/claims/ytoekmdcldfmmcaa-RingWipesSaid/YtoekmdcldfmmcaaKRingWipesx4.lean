/- Part 4 of RingWipes: what the functions reckon, step by step, and plain laws. No condition. -/
import Derived.Test.YtoekmdcldfmmcaaKRingWipesx3
set_option linter.unusedVariables false
set_option linter.unusedSimpArgs false
section
namespace Go.Proofs.Ytoekmdcldfmmcaa.F
open Go.RowKit Go.Proofs.YtoekmdcldfmmcaaW.PrintWords Go.Proofs.YtoekmdcldfmmcaaW.PrintLast Go.Proofs.YtoekmdcldfmmcaaW.PrintMore
theorem le_fuel {α : Type} {f : Nat → Option α} (hm : ∀ k, LeO (f k) (f (k + 1))) {a b : Nat} (h : a ≤ b) {r : α} (e : f a = some r) : f b = some r := by
  induction h with
  | refl => exact e
  | step _ ih => exact hm _ _ ih
end Go.Proofs.Ytoekmdcldfmmcaa.F
end
section
namespace Go.Proofs.Ytoekmdcldfmmcaa.F
open Go.RowKit Go.Proofs.YtoekmdcldfmmcaaW.PrintWords Go.Proofs.YtoekmdcldfmmcaaW.PrintLast Go.Proofs.YtoekmdcldfmmcaaW.PrintMore
theorem ringKnown_300 : L05_RingKnown.f 300 = some true := by kernel_rfl
end Go.Proofs.Ytoekmdcldfmmcaa.F
end
section
namespace Go.Proofs.Ytoekmdcldfmmcaa.F
open Go.RowKit Go.Proofs.YtoekmdcldfmmcaaW.PrintWords Go.Proofs.YtoekmdcldfmmcaaW.PrintLast Go.Proofs.YtoekmdcldfmmcaaW.PrintMore
theorem ringKnown_true {k : Nat} {t : Bool} (h : L05_RingKnown.f k = some t) : t = true := by
  rcases Nat.le_total k 300 with hk | hk
  · have h1 := le_fuel L05_RingKnown.mono hk h
    rw [ringKnown_300] at h1
    exact (Option.some.inj h1).symm
  · have h1 := le_fuel L05_RingKnown.mono hk ringKnown_300
    rw [h] at h1
    exact Option.some.inj h1
end Go.Proofs.Ytoekmdcldfmmcaa.F
end

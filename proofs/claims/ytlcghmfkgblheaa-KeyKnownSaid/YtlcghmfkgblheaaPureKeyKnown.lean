/- The plain law KeyKnown of chapter 22: the printed function answers true (by reckoning). No condition. -/
import Derived.Test.YtlcghmfkgblheaaF13
import Derived.KernelRfl
namespace Go.Proofs.Ytlcghmfkgblheaa.Pure
open Go.RowKit Go.Proofs.Ytlcghmfkgblheaa.F Go.Proofs.YtlcghmfkgblheaaW.PrintWords Go.Proofs.YtlcghmfkgblheaaW.PrintLast

theorem KeyKnown : L22_KeyKnown.Pure := ⟨80, by kernel_rfl⟩

end Go.Proofs.Ytlcghmfkgblheaa.Pure

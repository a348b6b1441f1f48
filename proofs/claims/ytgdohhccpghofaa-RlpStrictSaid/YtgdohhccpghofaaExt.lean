/- Part of a proof over Ytgdohhccpghofaa: rules and contracts that the law's text uses. No condition. -/
import Derived.Test.YtgdohhccpghofaaTy
import Derived.Test.YtgdohhccpghofaaFw21
import Derived.Test.YtgdohhccpghofaaFwC
namespace Go.Fw.Try
open Go Go.Proofs Go.Fw
theorem ext97 : SubLaw Try.prog 97 := fun x y b hb w => by rw [run_callFunc_extern Try.func97 (by kernel_rfl) (by kernel_rfl) (by kernel_rfl) (e := sub64E) (by kernel_rfl), run_sub64E x y b hb]; rfl
end Go.Fw.Try

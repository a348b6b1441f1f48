/- Part of a proof: rules that its law uses. -/
import Derived.Test.YtpkcehpoohmbfaaDoorTy
import Derived.Test.YtpkcehpoohmbfaaDoorFw21
import Derived.Test.YtpkcehpoohmbfaaDoorFwC
namespace Go.Fw.Tryd
open Go Go.Proofs Go.Fw
theorem ext135 : SubLaw Tryd.prog 135 := fun x y b hb w => by rw [run_callFunc_extern Tryd.func135 (by kernel_rfl) (by kernel_rfl) (by kernel_rfl) (e := sub64E) (by kernel_rfl), run_sub64E x y b hb]; rfl
theorem ext169 : AddLaw Tryd.prog 169 := fun x y b hb w => by rw [run_callFunc_extern Tryd.func169 (by kernel_rfl) (by kernel_rfl) (by kernel_rfl) (e := add64E) (by kernel_rfl), run_add64E x y b hb]; rfl
end Go.Fw.Tryd

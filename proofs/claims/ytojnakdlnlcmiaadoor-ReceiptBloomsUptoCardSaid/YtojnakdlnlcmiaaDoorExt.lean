/- Part of a proof: rules that its law uses. -/
import Derived.Test.YtojnakdlnlcmiaaDoorTy
import Derived.Test.YtojnakdlnlcmiaaDoorFw21
import Derived.Test.YtojnakdlnlcmiaaDoorFwC
namespace Go.Fw.Tryd
open Go Go.Proofs Go.Fw
theorem ext145 : SubLaw Tryd.prog 145 := fun x y b hb w => by rw [run_callFunc_extern Tryd.func145 (by kernel_rfl) (by kernel_rfl) (by kernel_rfl) (e := sub64E) (by kernel_rfl), run_sub64E x y b hb]; rfl
end Go.Fw.Tryd

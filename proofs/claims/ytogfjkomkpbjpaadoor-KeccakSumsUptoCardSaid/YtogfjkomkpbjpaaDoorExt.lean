/- Part of a proof: rules that its law uses. -/
import Derived.Test.YtogfjkomkpbjpaaDoorTy
import Derived.Test.YtogfjkomkpbjpaaDoorFw21
import Derived.Test.YtogfjkomkpbjpaaDoorFwC
namespace Go.Fw.Tryd
open Go Go.Proofs Go.Fw
end Go.Fw.Tryd

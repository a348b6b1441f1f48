/- Part of a proof over YtogfjkomkpbjpaaDoor: rules and contracts that the law's text uses. No condition. -/
import Derived.Test.YtogfjkomkpbjpaaDoorTy
import Derived.Test.YtogfjkomkpbjpaaDoorFw21
import Derived.Test.YtogfjkomkpbjpaaDoorFwC
namespace Go.Fw.Tryd
open Go Go.Proofs Go.Fw

end Go.Fw.Tryd

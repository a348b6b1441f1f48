/- Part of a proof over Ytogfjkomkpbjpaa: rules and contracts that the law's text uses. No condition. -/
import Derived.Test.YtogfjkomkpbjpaaTy
import Derived.Test.YtogfjkomkpbjpaaFw21
import Derived.Test.YtogfjkomkpbjpaaFwC
namespace Go.Fw.Try
open Go Go.Proofs Go.Fw

end Go.Fw.Try

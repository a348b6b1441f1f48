/- Part of a proof over YtmfeghmggcpngaaDoor: rules and contracts that the law's text uses. No condition. -/
import Derived.Test.YtmfeghmggcpngaaDoorTy
import Derived.Test.YtmfeghmggcpngaaDoorFw21
import Derived.Test.YtmfeghmggcpngaaDoorFwC
namespace Go.Fw.Tryd
open Go Go.Proofs Go.Fw

end Go.Fw.Tryd

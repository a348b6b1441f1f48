/- Part of a proof: rules that its law uses. -/
import Derived.Test.YtgonajfngmeanaaDoorTy
import Derived.Test.YtgonajfngmeanaaDoorFw21
import Derived.Test.YtgonajfngmeanaaDoorFwC
namespace Go.Fw.Tryd
open Go Go.Proofs Go.Fw
end Go.Fw.Tryd

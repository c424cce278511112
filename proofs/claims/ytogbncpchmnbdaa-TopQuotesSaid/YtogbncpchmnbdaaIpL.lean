import Derived.Test.YtogbncpchmnbdaaIpB3
import Derived.Test.YtogbncpchmnbdaaIpS2
namespace Go.Proofs.Ytogbncpchmnbdaa
open Go.RowKit
set_option linter.unusedVariables false
set_option linter.unusedSimpArgs false
set_option maxHeartbeats 4000000
set_option maxRecDepth 100000

end Go.Proofs.Ytogbncpchmnbdaa

import Derived.Test.YtogbncpchmnbdaaIpB3
import Derived.Test.YtogbncpchmnbdaaRef1
import Derived.Test.YtogbncpchmnbdaaTight
import Derived.Test.YtogbncpchmnbdaaIpR4L
namespace Go.Proofs.Ytogbncpchmnbdaa
open Go.RowKit
set_option linter.unusedVariables false
set_option linter.unusedSimpArgs false
set_option linter.unusedSimpArgs false
set_option maxHeartbeats 4000000
set_option maxRecDepth 100000

def hdE (p : Pkt) (all : Int) : List UInt8 := [ub (69 + (p.opt.length : Int) / 4), ub p.tos] ++ two all ++ two p.id ++ [ub (if p.keep = true then 64 else 0), ub 0] ++ [ub p.ttl, ub p.proto, ub 0, ub 0] ++ four p.src ++ four p.dst ++ p.opt
end Go.Proofs.Ytogbncpchmnbdaa

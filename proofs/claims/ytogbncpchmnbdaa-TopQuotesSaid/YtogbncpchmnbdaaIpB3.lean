import Derived.Test.YtogbncpchmnbdaaIpB2
namespace Go.Proofs.Ytogbncpchmnbdaa
open Go.RowKit
set_option linter.unusedVariables false
set_option linter.unusedSimpArgs false

/-- The document's header. -/
def hdL (p : Pkt) : List UInt8 := [ub (64 + (20 + (p.opt.length : Int)) / 4), ub p.tos] ++ two (20 + (p.opt.length : Int) + (p.dat.length : Int)) ++ two p.id ++ [if p.keep = true then 64 else 0, 0, ub p.ttl, ub p.proto, 0, 0] ++ four p.src ++ four p.dst ++ p.opt
theorem hdR_eq (p : Pkt) : hdR p = hdL p := by
  unfold hdR hdL ldR
  cases p.keep <;> simp [put16, put32, putK, zs, two, four, List.replicate, ub]
end Go.Proofs.Ytogbncpchmnbdaa

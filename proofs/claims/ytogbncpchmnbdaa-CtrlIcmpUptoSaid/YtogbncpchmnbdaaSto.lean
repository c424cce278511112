/- Stores, and orders drawn. -/
import Derived.Test.YtogbncpchmnbdaaSmall
import Derived.BigRegion
namespace Go.Proofs.Ytogbncpchmnbdaa
open Go.RowKit
theorem Sto.drew {W : World} {r : Nat} {wf : World} {cs : Array Value} {t : TypeId} (h : Sto W r wf cs t) : Sto W r wf.drew cs t :=
  ⟨h.blk.drew, fun b hB => below_drew (h.bel b hB), fun b ha => (h.bs b ha).drew, fun hk b => (h.other hk b).drew, fun b ha => (h.own b ha).drew⟩
end Go.Proofs.Ytogbncpchmnbdaa

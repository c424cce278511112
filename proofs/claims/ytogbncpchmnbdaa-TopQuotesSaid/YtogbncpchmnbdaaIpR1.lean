import Derived.Test.YtogbncpchmnbdaaIp3
import Derived.Test.YtogbncpchmnbdaaRef1
namespace Go.Proofs.Ytogbncpchmnbdaa
open Go.RowKit
set_option linter.unusedVariables false
set_option linter.unusedSimpArgs false
set_option maxHeartbeats 8000000
set_option maxRecDepth 100000

theorem rdPost_no {w w' : World} {q : Bool} {l : List UInt8} (x : Int) (hE : rdE q l = x) (hx : x ≠ 0) (hB : Below w.heap.size w w') :
    RdPost w q l (.returned (.tuple #[.agg #[.int .u8 0, .int .u16 0, .bool false, .int .u8 0, .int .u8 0, .int .u32 0, .int .u32 0, .slice none 0 0, .slice none 0 0], .int .i64 x])) w' := by
  have hR : rdPk q l = zP := by unfold rdPk; rw [if_neg (by omega)]
  exact ⟨none, 0, 0, none, 0, 0, by rw [hR, hE]; rfl, by rw [hR]; exact Bs.none_ _, by rw [hR]; exact Bs.none_ _, fun x e => (by cases e), fun x e => (by cases e), hB⟩
end Go.Proofs.Ytogbncpchmnbdaa

/- Parse and Quote, what they answer laid under names. -/
import Derived.Test.YtogbncpchmnbdaaIpJ
import Derived.Test.YtogbncpchmnbdaaIpL
import Derived.Test.YtogbncpchmnbdaaIpR3
import Derived.Test.YtogbncpchmnbdaaIpS
namespace Go.Proofs.Ytogbncpchmnbdaa
open Go.RowKit
set_option linter.unusedVariables false
set_option linter.unusedSimpArgs false
set_option maxHeartbeats 4000000
set_option maxRecDepth 100000

theorem ipQuote_v {l : List UInt8} {P : Pkt} {E : Int} (hP : rdPk true l = P) (hE : rdE true l = E) (A : Option Addr) (n c : Nat) (w : World) (hb : Bs w A n c l) :
    Calls Try.prog 36 #[.slice A n c] w fun e w' => ∃ A1 n1 c1 A2 n2 c2, e = .returned (.tuple #[(.agg #[.int .u8 (P).tos, .int .u16 (P).id, .bool (P).keep, .int .u8 (P).ttl, .int .u8 (P).proto, .int .u32 (P).src, .int .u32 (P).dst, .slice A1 n1 c1, .slice A2 n2 c2]), .int .i64 E]) ∧ Bs w' A1 n1 c1 P.opt ∧ Bs w' A2 n2 c2 P.dat ∧ Below w.heap.size w w' := by
  refine (ipQuote_any A n c l w hb).mono ?_
  intro e w' hQ
  obtain ⟨A1, n1, c1, A2, n2, c2, rfl, k1, k2, a1, a2, T⟩ := hQ.out
  rw [hP] at k1 k2 ⊢
  rw [hE]
  exact ⟨A1, n1, c1, A2, n2, c2, rfl, k1, k2, T⟩
theorem rsame_zero (p : Pkt) (A1 : Option Addr) (n1 c1 : Nat) (A2 : Option Addr) (n2 c2 : Nat) (w : World) (k1 : Bs w A1 n1 c1 p.opt) (k2 : Bs w A2 n2 c2 p.dat) :
    Calls Try.prog 19 #[(.agg #[.int .u8 (p).tos, .int .u16 (p).id, .bool (p).keep, .int .u8 (p).ttl, .int .u8 (p).proto, .int .u32 (p).src, .int .u32 (p).dst, .slice A1 n1 c1, .slice A2 n2 c2]), .agg #[.int .u8 0, .int .u16 0, .bool false, .int .u8 0, .int .u8 0, .int .u32 0, .int .u32 0, .slice none 0 0, .slice none 0 0]] w fun e w' => e = .returned (.bool (sameP p zP)) ∧ Below w.heap.size w w' :=
  rsame_any p zP A1 n1 c1 A2 n2 c2 none 0 0 none 0 0 w k1 k2 (Bs.none_ _) (Bs.none_ _)
theorem rdPk_bad {q : Bool} {l : List UInt8} (h : rdE q l ≠ 0) : rdPk q l = zP := by unfold rdPk; rw [if_neg h]
end Go.Proofs.Ytogbncpchmnbdaa

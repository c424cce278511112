import Derived.Test.YtogbncpchmnbdaaReg
import Derived.Test.YtogbncpchmnbdaaWire
import Derived.Test.YtogbncpchmnbdaaSmall
import Derived.Test.YtogbncpchmnbdaaPkt
namespace Go.Proofs.Ytogbncpchmnbdaa
open Go.RowKit
set_option linter.unusedVariables false
set_option linter.unusedSimpArgs false
set_option maxHeartbeats 4000000
set_option maxRecDepth 100000
def rightP (p : Pkt) : Bool := decide (p.opt.length ≤ 40) && decide (p.opt.length % 4 = 0) && decide (20 + p.opt.length + p.dat.length ≤ 65535)
theorem right_any (p : Pkt) (A1 : Option Addr) (n1 c1 : Nat) (A2 : Option Addr) (n2 c2 : Nat) (w : World) (k1 : Bs w A1 n1 c1 p.opt) (k2 : Bs w A2 n2 c2 p.dat) :
    Calls Try.prog 61 #[(.agg #[.int .u8 (p).tos, .int .u16 (p).id, .bool (p).keep, .int .u8 (p).ttl, .int .u8 (p).proto, .int .u32 (p).src, .int .u32 (p).dst, .slice A1 n1 c1, .slice A2 n2 c2])] w fun e w' => e = .returned (.bool (rightP p)) ∧ Below w.heap.size w w' := by
  have e1 := k1.len
  have e2 := k2.len
  have b1 := k1.max
  have b2 := k2.max
  have HR : Hid (rightP p = (decide (n1 ≤ 40) && decide (n1 % 4 = 0) && decide (20 + n1 + n2 ≤ 65535))) := by unfold Hid rightP; rw [e1, e2]
  clear e1 e2
  go_enter Try.func61, Try.ntmps61
  go_wp2_with fail
  all_goals go_ret
  all_goals refine ⟨?_, by (repeat (first | with_reducible exact Below.refl _ _ | with_reducible refine below_drew ?_ | with_reducible refine below_drewN ?_ _ | with_reducible refine below_alloc ?_ (Nat.le_refl _) _ | with_reducible refine Below.setCell ?_ (by first | exact Nat.le_refl _ | (simp only []; omega)) _ | with_reducible assumption))⟩
  all_goals rw [HR.out]
  all_goals congr 2
  all_goals (try (simp; done))
  all_goals (focus (simp; first | omega | (rw [Bool.eq_iff_iff]; simp; omega)))
theorem rright_any (p : Pkt) (A1 : Option Addr) (n1 c1 : Nat) (A2 : Option Addr) (n2 c2 : Nat) (w : World) (k1 : Bs w A1 n1 c1 p.opt) (k2 : Bs w A2 n2 c2 p.dat) :
    Calls Try.prog 34 #[(.agg #[.int .u8 (p).tos, .int .u16 (p).id, .bool (p).keep, .int .u8 (p).ttl, .int .u8 (p).proto, .int .u32 (p).src, .int .u32 (p).dst, .slice A1 n1 c1, .slice A2 n2 c2])] w fun e w' => e = .returned (.bool (rightP p)) ∧ Below w.heap.size w w' := by
  have e1 := k1.len
  have e2 := k2.len
  have b1 := k1.max
  have b2 := k2.max
  have HR : Hid (rightP p = (decide (n1 ≤ 40) && decide (n1 % 4 = 0) && decide (20 + n1 + n2 ≤ 65535))) := by unfold Hid rightP; rw [e1, e2]
  clear e1 e2
  go_enter Try.func34, Try.ntmps34
  go_wp2_with fail
  all_goals go_ret
  all_goals refine ⟨?_, by (repeat (first | with_reducible exact Below.refl _ _ | with_reducible refine below_drew ?_ | with_reducible refine below_drewN ?_ _ | with_reducible refine below_alloc ?_ (Nat.le_refl _) _ | with_reducible refine Below.setCell ?_ (by first | exact Nat.le_refl _ | (simp only []; omega)) _ | with_reducible assumption))⟩
  all_goals rw [HR.out]
  all_goals congr 2
  all_goals (try (simp; done))
  all_goals (focus (simp; first | omega | (rw [Bool.eq_iff_iff]; simp; omega)))
end Go.Proofs.Ytogbncpchmnbdaa

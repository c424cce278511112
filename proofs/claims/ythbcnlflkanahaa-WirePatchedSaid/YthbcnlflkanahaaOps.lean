/- What 'go_ops' lays of each slot: a slice's text is known too. -/
import Derived.Test.YthbcnlflkanahaaRegion
import Derived.Test.YthbcnlflkanahaaWire
namespace Go.Proofs.Ythbcnlflkanahaa
open Go.RowKit
theorem Drawn.bel {w w' : World} (h : Drawn w w') : Below w.heap.size w w' := by
  obtain ⟨n, rfl⟩ := h
  exact below_drewN (Below.refl _ w) n
macro_rules | `(tactic| ob_open $h:ident) => `(tactic| first | (have hh := isB_out $h; obtain ⟨A, c, $h:ident, k⟩ := hh; have hcv := cv k) | fail)
end Go.Proofs.Ythbcnlflkanahaa

/- Small literals of bytes. -/
import Derived.Test.YtogbncpchmnbdaaBase
namespace Go.Proofs.Ytogbncpchmnbdaa
open Go.RowKit
set_option linter.unusedVariables false

theorem cu2 {x y : Int} (x0 : 0 ≤ x) (x1 : x ≤ 255) (y0 : 0 ≤ y) (y1 : y ≤ 255) : (cu [ub x, ub y]).toArray = #[.int .u8 x, .int .u8 y] := by
  simp [cu, ub_val]; omega
theorem cu4 {x y z u : Int} (x0 : 0 ≤ x) (x1 : x ≤ 255) (y0 : 0 ≤ y) (y1 : y ≤ 255) (z0 : 0 ≤ z) (z1 : z ≤ 255) (u0 : 0 ≤ u) (u1 : u ≤ 255) : (cu [ub x, ub y, ub z, ub u]).toArray = #[.int .u8 x, .int .u8 y, .int .u8 z, .int .u8 u] := by
  simp [cu, ub_val]; omega
theorem lit2 {e : TypeId} {x y : Int} (x0 : 0 ≤ x) (x1 : x ≤ 255) (y0 : 0 ≤ y) (y1 : y ≤ 255) (W : World) : Own (W.alloc (.cells #[.int .u8 x, .int .u8 y] e)) W.heap.size e (some ⟨W.heap.size, 0, none⟩) 2 2 [ub x, ub y] := by
  rw [← cu2 x0 x1 y0 y1]; exact own_lit W _ e _ 2 rfl (by omega) (Nat.le_refl _)
theorem lit4 {e : TypeId} {x y z u : Int} (x0 : 0 ≤ x) (x1 : x ≤ 255) (y0 : 0 ≤ y) (y1 : y ≤ 255) (z0 : 0 ≤ z) (z1 : z ≤ 255) (u0 : 0 ≤ u) (u1 : u ≤ 255) (W : World) : Own (W.alloc (.cells #[.int .u8 x, .int .u8 y, .int .u8 z, .int .u8 u] e)) W.heap.size e (some ⟨W.heap.size, 0, none⟩) 4 4 [ub x, ub y, ub z, ub u] := by
  rw [← cu4 x0 x1 y0 y1 z0 z1 u0 u1]; exact own_lit W _ e _ 4 rfl (by omega) (Nat.le_refl _)
end Go.Proofs.Ytogbncpchmnbdaa

import Derived.Test.YtkjhickjgncheaaIpB3
import Derived.Test.YtkjhickjgncheaaIpS2
namespace Go.Proofs.Ytkjhickjgncheaa
open Go.RowKit
set_option linter.unusedVariables false
set_option linter.unusedSimpArgs false
set_option maxHeartbeats 4000000
set_option maxRecDepth 100000

theorem live02_any (w : World) : Calls Try.prog 16 #[] w fun e w' => e = .returned (.bool true) ∧ Below w.heap.size w w' := by
  have cb : ∀ W, Calls Try.prog 14 #[.agg #[.int .u8 0, .int .u16 0, .bool false, .int .u8 0, .int .u8 0, .int .u32 0, .int .u32 0, .slice none 0 0, .slice none 0 0]] W fun e w' => ∃ A n c, e = .returned (.tuple #[.slice A n c, .int .i64 0]) ∧ Own w' W.heap.size 5 A n c (bdR zP) ∧ Below W.heap.size W w' :=
    fun W => build_any zP zP_ok none 0 0 none 0 0 W (Bs.none_ _) (Bs.none_ _) (by decide) (by decide) (by decide)
  have cr : ∀ W, Calls Try.prog 17 #[.agg #[.int .u8 0, .int .u16 0, .bool false, .int .u8 0, .int .u8 0, .int .u32 0, .int .u32 0, .slice none 0 0, .slice none 0 0]] W fun e w' => e = .returned (.bool (rightP zP)) ∧ Below W.heap.size W w' :=
    fun W => right_any zP none 0 0 none 0 0 W (Bs.none_ _) (Bs.none_ _)
  have hr : rightP zP = true := by decide
  rw [hr] at cr
  have hL : (bdR zP).length = 20 := by decide
  have h0 : bt (bdR zP) 0 = 69 := by decide
  have h3 : bt (bdR zP) 3 = 20 := by decide
  have h10 : bt (bdR zP) 10 = 186 := by decide
  have h11 : bt (bdR zP) 11 = 235 := by decide
  go_enter Try.func16, Try.ntmps16
  go_wp2_with (first
    | (go_at_call 14; ((with_reducible refine (cb w).mono ?_); rintro e w1 ⟨A1, n1, c1, rfl, ho1, hB1⟩); have u1 : n1 = 20 := (by rw [← ho1.len, hL]); subst u1; (obtain ⟨g, rfl, hg1, hg2⟩ := ho1.ptr (by omega)); have a0 := ho1.at_ (i := 0) (by omega); have a3 := ho1.at_ (i := 3) (by omega); have a10 := ho1.at_ (i := 10) (by omega); have a11 := ho1.at_ (i := 11) (by omega))
    | (go_at_call 17; ((with_reducible refine (cr _).mono ?_); rintro e w2 ⟨rfl, hB2⟩)))
  go_ret
  exact ⟨rfl, below_then hB1 hB2⟩
end Go.Proofs.Ytkjhickjgncheaa

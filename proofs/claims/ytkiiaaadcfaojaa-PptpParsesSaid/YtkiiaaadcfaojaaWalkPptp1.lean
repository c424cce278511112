import Derived.Test.YtkiiaaadcfaojaaPptp9
import Derived.Test.YtkiiaaadcfaojaaSmall
namespace Go.Proofs.Ytkiiaaadcfaojaa
open Go.RowKit Go.MapKept
set_option linter.unusedVariables false
set_option maxHeartbeats 1000000

theorem pptpParses_walk (w : World) (A : Option Addr) (n c : Nat) (l : List UInt8) (hb : Bs w A n c l) :
    Calls Try.prog 3 #[.slice A n c] w fun e w' => e = .returned (.bool true) ∧ Below w.heap.size w w' := by
  have hmax := hb.max
  have hl : (cu []).toArray = #[] := rfl
  go_enter Try.func3, Try.ntmps3
  go_wp2_with (first
    | (at_builtin; go_loud (refine wpList_append_bs (w0 := w) _ rfl _ _ _ rfl w.heap.size 5 Try.underlying22 info_u8 (some ⟨_, 0, none⟩) 0 0 [] rfl (own_litk _ _ (by simp) w.heap.size 5 [] 0 rfl (by omega) (by omega)) A n c l rfl (hb.alloc _) (by (repeat (first | with_reducible exact Below.refl _ _ | with_reducible refine below_drew ?_ | with_reducible refine below_drewN ?_ _ | with_reducible refine below_alloc ?_ (Nat.le_refl _) _ | with_reducible refine Below.setCell ?_ (by first | exact Nat.le_refl _ | (simp only []; omega)) _ | with_reducible assumption))) (by omega) (by first | exact Nat.le_refl _ | omega | (simp <;> omega)) ?_); intro A3 n3 c3 w3 ho3 hB3 _ hz3; have u3 : n3 = n := (by have := ho3.len; have := hb.len; simp at *; omega); subst u3; have k3 : Bs w3 A3 n3 c3 l := ho3.bs; have b3 := hb.below hB3)
    | (go_at_call 10; ((with_reducible refine (parse_v A3 n3 c3 l w3 k3).mono ?_); rintro e w4 ⟨rfl, hB4⟩); have k4 := k3.below hB4; have b4 := b3.below hB4; have T4 := below_then hB3 hB4)
    | (go_at_call 11; ((with_reducible refine (rparse_v A n3 c l _ (b4.below (by (repeat (first | with_reducible exact Below.refl _ _ | with_reducible refine below_drew ?_ | with_reducible refine below_drewN ?_ _ | with_reducible refine below_alloc ?_ (Nat.le_refl _) _ | with_reducible refine Below.setCell ?_ (by first | exact Nat.le_refl _ | (simp only []; omega)) _ | with_reducible assumption))))).mono ?_); rintro e w5 ⟨rfl, hB5⟩); have m5 := (blk_new w4 _ _ _ rfl).below hB5; have k5 := (k4.alloc _).below hB5; have b5 := (b4.alloc _).below hB5; have T5 := below_then (below_alloc T4 (Nat.le_refl _) _) hB5)
    | (go_at_call 12; ((with_reducible refine (live15_any _).mono ?_); rintro e w6 ⟨rfl, hB6⟩); have m6 := ((m5.alloc _).below hB6).cell; have q6 := ((blk_new w5 _ _ _ rfl).below hB6).cell; have k6 := cv ((k5.alloc _).below hB6); have b6 := cv ((b5.alloc _).below hB6); have T6 := below_then (below_alloc T5 (Nat.le_refl _) _) hB6))
  go_ret
  exact ⟨rfl, T6⟩
end Go.Proofs.Ytkiiaaadcfaojaa

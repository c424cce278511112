/- lychgatelaw04.live. -/
import Derived.Test.YtogbncpchmnbdaaMsg3
import Derived.Test.YtogbncpchmnbdaaGre3
import Derived.Test.YtogbncpchmnbdaaMsg4
namespace Go.Proofs.Ytogbncpchmnbdaa
open Go.RowKit
set_option linter.unusedVariables false
set_option linter.unusedSimpArgs false
set_option maxHeartbeats 4000000
set_option maxRecDepth 100000

def f7 : Frm := ⟨7, false, false, 0, 0, []⟩
def m8 : Msg := ⟨8, 0, 5, []⟩
theorem live04_any (w : World) : Calls Try.prog 18 #[] w fun e w' => e = .returned (.bool true) ∧ Below w.heap.size w w' := by
  have cg : ∀ W, Calls Try.prog 16 #[.agg #[.int .u8 0, .int .u16 0, .bool false, .int .u8 0, .int .u8 0, .int .u32 0, .int .u32 0, .slice none 0 0, .slice none 0 0], .agg #[.int .u16 7, .bool false, .bool false, .int .u32 0, .int .u32 0, .slice none 0 0]] W fun e w' => ∃ B1 m1 d1 B2 m2 d2, e = .returned (.tuple #[.agg #[.int .u8 0, .int .u16 0, .bool false, .int .u8 0, .int .u8 47, .int .u32 0, .int .u32 0, .slice B1 m1 d1, .slice B2 m2 d2], .int .i64 0]) ∧ Own w' W.heap.size 5 B2 m2 d2 [32, 1, 136, 11, 0, 0, 0, 7] ∧ Below W.heap.size W w' := fun W => by
    have hh := bg_any zP none 0 0 none 0 0 f7 ⟨by decide, by decide, by decide⟩ none 0 0 W (Bs.none_ _) (Bs.none_ _) (by omega)
    refine hh.mono fun e w' hq => ?_
    obtain ⟨B1, m1, d1, B2, m2, d2, rfl, -, h2, h3⟩ := hq.out
    have e1 : bgP zP f7 = ⟨0, 0, false, 0, 47, 0, 0, [], [32, 1, 136, 11, 0, 0, 0, 7]⟩ := by kernel_rfl
    have e2 : bgE zP f7 = 0 := by decide
    rw [e1] at h2 ⊢
    rw [e2]
    exact ⟨B1, m1, d1, B2, m2, d2, rfl, h2, h3⟩
  have ci : ∀ W, Calls Try.prog 14 #[.agg #[.int .u8 0, .int .u16 0, .bool false, .int .u8 0, .int .u8 0, .int .u32 0, .int .u32 0, .slice none 0 0, .slice none 0 0], .agg #[.int .u8 8, .int .u8 0, .int .u32 5, .slice none 0 0]] W fun e w' => ∃ B1 m1 d1 B2 d2, e = .returned (.tuple #[.agg #[.int .u8 0, .int .u16 0, .bool false, .int .u8 0, .int .u8 1, .int .u32 0, .int .u32 0, .slice B1 m1 d1, .slice B2 8 d2], .int .i64 0]) ∧ Below W.heap.size W w' := fun W => by
    have hh := bicmp_any zP none 0 0 none 0 0 m8 ⟨by decide, by decide, by decide⟩ none 0 0 W (Bs.none_ _) (Bs.none_ _) (by omega)
    refine hh.mono fun e w' hq => ?_
    obtain ⟨B1, m1, d1, B2, m2, d2, rfl, -, h2, h3⟩ := hq.out
    have e2 : wiE zP (8 + m8.dat.length) = 0 := by decide
    have e0 : (mS m8).length = 8 := by rw [mS_len]; rfl
    have e1 : withP zP 1 (mS m8) = ⟨0, 0, false, 0, 1, 0, 0, [], mS m8⟩ := by unfold withP; rw [e0, show wiE zP 8 = 0 from by decide, if_pos rfl]; rfl
    rw [e1] at h2 ⊢
    rw [show wiE zP (8 + m8.dat.length) = 0 from e2]
    have h4 := h2.len
    rw [e0] at h4
    subst h4
    exact ⟨B1, m1, d1, B2, d2, rfl, h3⟩
  have ca : ∀ W, Calls Try.prog 26 #[.agg #[.int .u8 8, .int .u8 0, .int .u32 0, .slice none 0 0]] W fun e w' => e = .returned (.bool true) ∧ Below W.heap.size W w' := fun W => asks_any ⟨8, 0, 0, []⟩ ⟨by decide, by decide, by decide⟩ none 0 0 W
  go_enter Try.func18, Try.ntmps18
  go_wp2_with (first
    | (go_at_call 16; go_loud ((with_reducible refine (cg w).mono ?_); rintro e w1 ⟨B1, m1, d1, B2, m2, d2, rfl, O2, hB1⟩; (obtain ⟨w2, hw2⟩ : ∃ w2, w1.alloc (.cells #[.int .u8 0, .int .u16 0, .bool false, .int .u8 0, .int .u8 47, .int .u32 0, .int .u32 0, .slice B1 m1 d1, .slice B2 m2 d2] 26) = w2 := ⟨_, rfl⟩); have V2 : Below w1.heap.size w1 w2 := (by rw [← hw2]; (repeat (first | with_reducible exact Below.refl _ _ | with_reducible refine below_drew ?_ | with_reducible refine below_drewN ?_ _ | with_reducible refine below_alloc ?_ (Nat.le_refl _) _ | with_reducible refine Below.setCell ?_ (by first | exact Nat.le_refl _ | (simp only []; omega)) _ | with_reducible assumption))); have P2 := blk_new w1 #[.int .u8 0, .int .u16 0, .bool false, .int .u8 0, .int .u8 47, .int .u32 0, .int .u32 0, .slice B1 m1 d1, .slice B2 m2 d2] 26 _ rfl; rw [hw2] at P2; have T2 := below_then hB1 V2; have y2 := O2.bs.below V2; (obtain ⟨k, hk⟩ : ∃ k, w1.heap.size = k := ⟨_, rfl⟩); rw [hk] at P2))
    | (go_at_call 14; go_loud ((with_reducible refine (ci _).mono ?_); rintro e w3 ⟨C1, e1, f1, C2, f2, rfl, hB3⟩; (obtain ⟨w4, hw4⟩ : ∃ w4, w3.alloc (.cells #[.int .u8 0, .int .u16 0, .bool false, .int .u8 0, .int .u8 1, .int .u32 0, .int .u32 0, .slice C1 e1 f1, .slice C2 8 f2] 26) = w4 := ⟨_, rfl⟩); have V4 : Below w3.heap.size w3 w4 := (by rw [← hw4]; (repeat (first | with_reducible exact Below.refl _ _ | with_reducible refine below_drew ?_ | with_reducible refine below_drewN ?_ _ | with_reducible refine below_alloc ?_ (Nat.le_refl _) _ | with_reducible refine Below.setCell ?_ (by first | exact Nat.le_refl _ | (simp only []; omega)) _ | with_reducible assumption))); have P4 := blk_new w3 #[.int .u8 0, .int .u16 0, .bool false, .int .u8 0, .int .u8 1, .int .u32 0, .int .u32 0, .slice C1 e1 f1, .slice C2 8 f2] 26 _ rfl; rw [hw4] at P4; have T4 := below_then hB3 V4; have P24 := P2.below T4; have y4 := cv (y2.below T4); have pc2 := P24.cell; have pc4 := P4.cell))
    | (go_at_call 26; go_loud ((with_reducible refine (ca _).mono ?_); rintro e w5 ⟨rfl, hB5⟩)))
  · go_ret
    exact ⟨rfl, below_then (below_then (below_then T2 T4) hB5) (Below.refl _ _)⟩
  · rename_i hs
    exact absurd (by first | kernel_rfl | rfl | simp [str_toListS]) hs
end Go.Proofs.Ytogbncpchmnbdaa

/- CtrlKinds. -/
import Derived.Test.YtogbncpchmnbdaaMsgK
import Derived.Test.YtogbncpchmnbdaaLive4
namespace Go.Proofs.Ytogbncpchmnbdaa
open Go.RowKit
set_option linter.unusedVariables false
set_option linter.unusedSimpArgs false
set_option linter.unusedSimpArgs false
set_option maxHeartbeats 4000000
set_option maxRecDepth 100000

theorem ctrlKinds_walk (w : World) (m : Msg) (hm : m.Ok) (A1 : Option Addr) (n1 c1 : Nat) (k1 : Bs w A1 n1 c1 m.dat) (hm1 : n1 ≤ 140737488351232) :
    Calls Try.prog 6 #[(.agg #[.int .u8 (m).ty, .int .u8 (m).code, .int .u32 (m).rest, .slice A1 n1 c1])] w fun e w' => e = .returned (.bool true) ∧ Below w.heap.size w w' := by
  obtain ⟨a, ha⟩ : ∃ a, isErrM m = a := ⟨_, rfl⟩
  obtain ⟨b, hb⟩ : ∃ b, isEchoM m = b := ⟨_, rfl⟩
  obtain ⟨c, hc⟩ : ∃ c, asksM m = c := ⟨_, rfl⟩
  have f1 := fun W => iserr_any m A1 n1 c1 W
  have f2 := fun W => isecho_any m hm A1 n1 c1 W
  have f3 := fun W => asks_any m hm A1 n1 c1 W
  have r1 := fun W => riserr_any m A1 n1 c1 W
  have r2 := fun W => risecho_any m A1 n1 c1 W
  have r3 := fun W => rasks_any m A1 n1 c1 W
  have t1 : (!c || b) = true := by
    rw [← hc, ← hb]; unfold asksM isEchoM
    cases m.ty == 8 <;> cases m.code == 0 <;> simp
  have t2 : (a && b) = false := by
    rw [← ha, ← hb]; unfold isErrM isEchoM
    cases h1 : (m.ty == 3) <;> cases h2 : (m.ty == 11) <;> cases h3 : (m.ty == 12) <;> simp_all
  simp only [ha, hb, hc] at f1 f2 f3 r1 r2 r3
  obtain ⟨w1, hw1⟩ : ∃ w1, w.alloc (.cells #[.int .u8 (m).ty, .int .u8 (m).code, .int .u32 (m).rest, .slice A1 n1 c1] 28) = w1 := ⟨_, rfl⟩
  obtain ⟨k, hk⟩ : ∃ k, w.heap.size = k := ⟨_, rfl⟩
  have P1 : Blk w1 k #[.int .u8 (m).ty, .int .u8 (m).code, .int .u32 (m).rest, .slice A1 n1 c1] 28 := by rw [← hw1]; exact blk_new w _ _ _ hk
  have R1 : Below w.heap.size w w1 := by rw [← hw1]; (repeat (first | with_reducible exact Below.refl _ _ | with_reducible refine below_drew ?_ | with_reducible refine below_drewN ?_ _ | with_reducible refine below_alloc ?_ (Nat.le_refl _) _ | with_reducible refine Below.setCell ?_ (by first | exact Nat.le_refl _ | (simp only []; omega)) _ | with_reducible assumption))
  have pc := P1.cell
  clear ha hb hc
  go_enter Try.func6, Try.ntmps6
  go_wp2_with fail
  refine region_txt 6 (by kernel_rfl) (by kernel_rfl) ?_; (iterate 6 (first | (apply ObsK.skip (by rfl)) | (apply ObsK.v (by rfl); (intro wo hT; (repeat (first | (intro _ _ k; try have hcv := cv k))); (have pc := (P1.below hT).cell); refine Goes.mk ?_; go_simp; first | exact goes_v | exact goes_b (by assumption) | (refine goes_enter ?_; first | (go_at_call 24; go_loud ((with_reducible refine (f1 wo).mono ?_); rintro e w5 ⟨rfl, hD5⟩; exact ret_v hD5)) | (go_at_call 25; go_loud ((with_reducible refine (f2 wo).mono ?_); rintro e w5 ⟨rfl, hD5⟩; exact ret_v hD5)) | (go_at_call 26; go_loud ((with_reducible refine (f3 wo).mono ?_); rintro e w5 ⟨rfl, hD5⟩; exact ret_v hD5))))) | (apply ObsK.b (by rfl); (intro wo hT; (repeat (first | (intro _ _ k; try have hcv := cv k))); (have pc := (P1.below hT).cell); refine Goes.mk ?_; go_simp; first | exact goes_v | exact goes_b (by assumption) | (refine goes_enter ?_; first | (go_at_call 24; go_loud ((with_reducible refine (f1 wo).mono ?_); rintro e w5 ⟨rfl, hD5⟩; exact ret_v hD5)) | (go_at_call 25; go_loud ((with_reducible refine (f2 wo).mono ?_); rintro e w5 ⟨rfl, hD5⟩; exact ret_v hD5)) | (go_at_call 26; go_loud ((with_reducible refine (f3 wo).mono ?_); rintro e w5 ⟨rfl, hD5⟩; exact ret_v hD5))))))); refine ObsK.nil ?_; intro wz hBz; simp only [finOn, List.drop_succ_cons, List.drop_zero, List.drop_nil]
  go_simp
  have P2 := P1.below hBz
  have pc2 := P2.cell
  have R2 := below_then R1 hBz
  cases a <;> cases b <;> cases c
  all_goals first | (exfalso; revert t1 t2; decide) | skip
  all_goals go_wp2_with (first
    | (go_at_call 18; go_loud ((with_reducible refine (live04_any wz).mono ?_); rintro e w3 ⟨rfl, hB3⟩; have P3 := P2.below hB3; have pc3 := P3.cell))
    | (go_at_call 27; go_loud ((with_reducible refine (r1 _).mono ?_); rintro e w4 ⟨rfl, hB4⟩; have P4 := P3.below hB4; have pc4 := P4.cell))
    | (go_at_call 28; go_loud ((with_reducible refine (r2 _).mono ?_); rintro e w5 ⟨rfl, hB5⟩; have P5 := P4.below hB5; have pc5 := P5.cell))
    | (go_at_call 29; go_loud ((with_reducible refine (r3 _).mono ?_); rintro e w6 ⟨rfl, hB6⟩; have P6 := P5.below hB6; have pc6 := P6.cell)))
  all_goals go_ret
  all_goals exact ⟨rfl, below_then R2 (below_then hB3 (below_then hB4 (below_then hB5 hB6)))⟩
end Go.Proofs.Ytogbncpchmnbdaa

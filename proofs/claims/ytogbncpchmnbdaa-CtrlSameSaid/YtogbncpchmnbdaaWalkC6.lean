/- CtrlSame. -/
import Derived.Test.YtogbncpchmnbdaaWalkC3
namespace Go.Proofs.Ytogbncpchmnbdaa
open Go.RowKit
set_option linter.unusedVariables false
set_option linter.unusedSimpArgs false
set_option linter.unusedSimpArgs false
set_option maxHeartbeats 4000000
set_option maxRecDepth 100000

theorem ctrlSame_walk (w : World) (m : Msg) (hm : m.Ok) (A1 : Option Addr) (n1 c1 : Nat) (k1 : Bs w A1 n1 c1 m.dat) (hn1 : n1 ≤ 140737488351232) (n : Msg) (hn : n.Ok) (A2 : Option Addr) (n2 c2 : Nat) (k2 : Bs w A2 n2 c2 n.dat) (hn2 : n2 ≤ 140737488351232)
    (f : Frm) (hf : f.Ok) (B1 : Option Addr) (m1 d1 : Nat) (j1 : Bs w B1 m1 d1 f.dat) (hm1 : m1 ≤ 140737488351232) (g : Frm) (hg : g.Ok) (B2 : Option Addr) (m2 d2 : Nat) (j2 : Bs w B2 m2 d2 g.dat) (hm2 : m2 ≤ 140737488351232) :
    Calls Try.prog 5 #[(.agg #[.int .u8 (m).ty, .int .u8 (m).code, .int .u32 (m).rest, .slice A1 n1 c1]), (.agg #[.int .u8 (n).ty, .int .u8 (n).code, .int .u32 (n).rest, .slice A2 n2 c2]), .agg ([.int .u16 (f).call, .bool (f).hs, .bool (f).ha, .int .u32 (f).seq, .int .u32 (f).ack, .slice B1 m1 d1] ++ [.int .u16 (g).call, .bool (g).hs, .bool (g).ha, .int .u32 (g).seq, .int .u32 (g).ack, .slice B2 m2 d2] : List Value).toArray] w fun e w' => e = .returned (.bool true) ∧ Below w.heap.size w w' := by
  have ca := fun W k1 k2 => msame_any m n A1 n1 c1 A2 n2 c2 W k1 k2
  have cb := fun W k1 k2 => msame_any n m A2 n2 c2 A1 n1 c1 W k1 k2
  have cc := fun W k1 => msame_any m m A1 n1 c1 A1 n1 c1 W k1 k1
  have cd := fun W k1 k2 => rmsame_any m n A1 n1 c1 A2 n2 c2 W k1 k2
  have ce := fun W k1 k2 => gsame_any f g B1 m1 d1 B2 m2 d2 W k1 k2
  have cf := fun W k1 => gsame_any f f B1 m1 d1 B1 m1 d1 W k1 k1
  have cg := fun W k1 k2 => rgsame_any f g B1 m1 d1 B2 m2 d2 W k1 k2
  simp only [sameM_self, sameF_self, sameM_comm n m] at ca cb cc cd ce cf cg
  obtain ⟨a, ha⟩ : ∃ a, sameM m n = a := ⟨_, rfl⟩
  obtain ⟨b, hb⟩ : ∃ b, sameF f g = b := ⟨_, rfl⟩
  simp only [ha, hb] at ca cb cd ce cg
  clear ha hb
  show Calls Try.prog 5 #[(.agg #[.int .u8 (m).ty, .int .u8 (m).code, .int .u32 (m).rest, .slice A1 n1 c1]), (.agg #[.int .u8 (n).ty, .int .u8 (n).code, .int .u32 (n).rest, .slice A2 n2 c2]), .agg #[.int .u16 f.call, .bool f.hs, .bool f.ha, .int .u32 f.seq, .int .u32 f.ack, .slice B1 m1 d1, .int .u16 g.call, .bool g.hs, .bool g.ha, .int .u32 g.seq, .int .u32 g.ack, .slice B2 m2 d2]] w _
  obtain ⟨k, hk⟩ : ∃ k : Nat, w.heap.size = k := ⟨_, rfl⟩
  obtain ⟨w1, hw1⟩ : ∃ W, (((w.alloc (.cells #[.int .u8 (m).ty, .int .u8 (m).code, .int .u32 (m).rest, .slice A1 n1 c1] 28)).alloc (.cells #[.int .u8 (n).ty, .int .u8 (n).code, .int .u32 (n).rest, .slice A2 n2 c2] 28)).alloc (.cells #[.int .u16 f.call, .bool f.hs, .bool f.ha, .int .u32 f.seq, .int .u32 f.ack, .slice B1 m1 d1, .int .u16 g.call, .bool g.hs, .bool g.ha, .int .u32 g.seq, .int .u32 g.ack, .slice B2 m2 d2] 39)) = W := ⟨_, rfl⟩
  have P1 : Blk w1 k #[.int .u8 (m).ty, .int .u8 (m).code, .int .u32 (m).rest, .slice A1 n1 c1] 28 := by rw [← hw1]; exact (((blk_new _ _ _ k (by simp [hk])).alloc _).alloc _)
  have Q1 : Blk w1 (k + 1) #[.int .u8 (n).ty, .int .u8 (n).code, .int .u32 (n).rest, .slice A2 n2 c2] 28 := by rw [← hw1]; exact ((blk_new _ _ _ (k + 1) (by simp [hk])).alloc _)
  have L1 : Blk w1 (k + 1 + 1) #[.int .u16 f.call, .bool f.hs, .bool f.ha, .int .u32 f.seq, .int .u32 f.ack, .slice B1 m1 d1, .int .u16 g.call, .bool g.hs, .bool g.ha, .int .u32 g.seq, .int .u32 g.ack, .slice B2 m2 d2] 39 := by rw [← hw1]; exact (blk_new _ _ _ (k + 1 + 1) (by simp [hk]))
  have R1 : Below w.heap.size w w1 := by rw [← hw1]; (repeat (first | with_reducible exact Below.refl _ _ | with_reducible refine below_drew ?_ | with_reducible refine below_drewN ?_ _ | with_reducible refine below_alloc ?_ (Nat.le_refl _) _ | with_reducible refine Below.setCell ?_ (by first | exact Nat.le_refl _ | (simp only []; omega)) _ | with_reducible assumption))
  have Pc1 := P1.cell
  have Qc1 := Q1.cell
  have Lc1 := L1.cell
  have Pl1 := P1.lt
  have Ql1 := Q1.lt
  have Ll1 := L1.lt
  have x1 := (k1).below R1
  have y1 := (k2).below R1
  have z1 := (j1).below R1
  have u1 := (j2).below R1
  clear k1 k2 j1 j2
  go_enter Try.func5, Try.ntmps5
  go_wp2_with fail
  cases a <;> cases b
  all_goals refine region_txt 44 (by kernel_rfl) (by kernel_rfl) ?_; (iterate 44 (first | (apply ObsK.skip (by rfl)) | (apply ObsK.v (by rfl); (intro wo hT; (repeat (first | (intro _ _ k; try have hcv := cv k))); (have pco := (P1.below hT).cell; have qco := (Q1.below hT).cell; have lco := (L1.below hT).cell; have xo := x1.below hT; have yo := y1.below hT; have zo := z1.below hT; have uo := u1.below hT); refine Goes.mk ?_; go_simp; first | exact goes_v | exact goes_b (by assumption) | (refine goes_enter ?_; first | (go_at_call 18; go_loud ((with_reducible refine (live04_any wo).mono ?_); rintro e w5 ⟨rfl, hD5⟩; exact ret_v hD5)) | (go_at_call 20; go_loud ((with_reducible refine (ca wo xo yo).mono ?_); rintro e w5 ⟨rfl, hD5⟩; exact ret_v hD5)) | (go_at_call 20; go_loud ((with_reducible refine (cb wo yo xo).mono ?_); rintro e w5 ⟨rfl, hD5⟩; exact ret_v hD5)) | (go_at_call 20; go_loud ((with_reducible refine (cc wo xo).mono ?_); rintro e w5 ⟨rfl, hD5⟩; exact ret_v hD5)) | (go_at_call 21; go_loud ((with_reducible refine (cd wo xo yo).mono ?_); rintro e w5 ⟨rfl, hD5⟩; exact ret_v hD5)) | (go_at_call 22; go_loud ((with_reducible refine (ce wo zo uo).mono ?_); rintro e w5 ⟨rfl, hD5⟩; exact ret_v hD5)) | (go_at_call 22; go_loud ((with_reducible refine (cf wo zo).mono ?_); rintro e w5 ⟨rfl, hD5⟩; exact ret_v hD5)) | (go_at_call 23; go_loud ((with_reducible refine (cg wo zo uo).mono ?_); rintro e w5 ⟨rfl, hD5⟩; exact ret_v hD5))))) | (apply ObsK.b (by rfl); (intro wo hT; (repeat (first | (intro _ _ k; try have hcv := cv k))); (have pco := (P1.below hT).cell; have qco := (Q1.below hT).cell; have lco := (L1.below hT).cell; have xo := x1.below hT; have yo := y1.below hT; have zo := z1.below hT; have uo := u1.below hT); refine Goes.mk ?_; go_simp; first | exact goes_v | exact goes_b (by assumption) | (refine goes_enter ?_; first | (go_at_call 18; go_loud ((with_reducible refine (live04_any wo).mono ?_); rintro e w5 ⟨rfl, hD5⟩; exact ret_v hD5)) | (go_at_call 20; go_loud ((with_reducible refine (ca wo xo yo).mono ?_); rintro e w5 ⟨rfl, hD5⟩; exact ret_v hD5)) | (go_at_call 20; go_loud ((with_reducible refine (cb wo yo xo).mono ?_); rintro e w5 ⟨rfl, hD5⟩; exact ret_v hD5)) | (go_at_call 20; go_loud ((with_reducible refine (cc wo xo).mono ?_); rintro e w5 ⟨rfl, hD5⟩; exact ret_v hD5)) | (go_at_call 21; go_loud ((with_reducible refine (cd wo xo yo).mono ?_); rintro e w5 ⟨rfl, hD5⟩; exact ret_v hD5)) | (go_at_call 22; go_loud ((with_reducible refine (ce wo zo uo).mono ?_); rintro e w5 ⟨rfl, hD5⟩; exact ret_v hD5)) | (go_at_call 22; go_loud ((with_reducible refine (cf wo zo).mono ?_); rintro e w5 ⟨rfl, hD5⟩; exact ret_v hD5)) | (go_at_call 23; go_loud ((with_reducible refine (cg wo zo uo).mono ?_); rintro e w5 ⟨rfl, hD5⟩; exact ret_v hD5))))))); refine ObsK.nil ?_; intro wz hBz; simp only [finOn, List.drop_succ_cons, List.drop_zero, List.drop_nil]
  all_goals go_simp
  all_goals go_wp2_with fail
  all_goals go_ret
  all_goals exact ⟨rfl, below_then R1 hBz⟩
end Go.Proofs.Ytogbncpchmnbdaa

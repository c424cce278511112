import Derived.Test.YtkjhickjgncheaaIpV
namespace Go.Proofs.Ytkjhickjgncheaa
open Go.RowKit
set_option linter.unusedVariables false
set_option linter.unusedSimpArgs false
set_option linter.unusedSimpArgs false
set_option maxHeartbeats 4000000
set_option maxRecDepth 100000

theorem ipv4Builds_walk (w : World) (p : Pkt) (hp : p.Ok) (A1 : Option Addr) (n1 c1 : Nat) (A2 : Option Addr) (n2 c2 : Nat) (k1 : Bs w A1 n1 c1 p.opt) (k2 : Bs w A2 n2 c2 p.dat)
    (q : Pkt) (hq : q.Ok) (B1 : Option Addr) (m1 d1 : Nat) (B2 : Option Addr) (m2 d2 : Nat) (j1 : Bs w B1 m1 d1 q.opt) (j2 : Bs w B2 m2 d2 q.dat) :
    Calls Try.prog 3 #[(.agg #[.int .u8 (p).tos, .int .u16 (p).id, .bool (p).keep, .int .u8 (p).ttl, .int .u8 (p).proto, .int .u32 (p).src, .int .u32 (p).dst, .slice A1 n1 c1, .slice A2 n2 c2]), (.agg #[.int .u8 (q).tos, .int .u16 (q).id, .bool (q).keep, .int .u8 (q).ttl, .int .u8 (q).proto, .int .u32 (q).src, .int .u32 (q).dst, .slice B1 m1 d1, .slice B2 m2 d2])] w fun e w' => e = .returned (.bool true) ∧ Below w.heap.size w w' := by
  obtain ⟨E, hE⟩ : ∃ E, bdE p = E := ⟨_, rfl⟩
  have cb := fun W k1 k2 => bd_any p hp A1 n1 c1 A2 n2 c2 W k1 k2
  have cr := fun W k1 k2 => rbd_any p hp A1 n1 c1 A2 n2 c2 W k1 k2
  simp only [hE] at cb cr
  clear hE
  obtain ⟨k, hk⟩ : ∃ k : Nat, w.heap.size = k := ⟨_, rfl⟩
  obtain ⟨w1, hw1⟩ : ∃ w1, (w.alloc (.cells #[.int .u8 p.tos, .int .u16 p.id, .bool p.keep, .int .u8 p.ttl, .int .u8 p.proto, .int .u32 p.src, .int .u32 p.dst, .slice A1 n1 c1, .slice A2 n2 c2] 26)).alloc (.cells #[.int .u8 q.tos, .int .u16 q.id, .bool q.keep, .int .u8 q.ttl, .int .u8 q.proto, .int .u32 q.src, .int .u32 q.dst, .slice B1 m1 d1, .slice B2 m2 d2] 26) = w1 := ⟨_, rfl⟩
  have P0 : Blk w1 k #[.int .u8 p.tos, .int .u16 p.id, .bool p.keep, .int .u8 p.ttl, .int .u8 p.proto, .int .u32 p.src, .int .u32 p.dst, .slice A1 n1 c1, .slice A2 n2 c2] 26 := by rw [← hw1]; exact (blk_new w _ _ k hk).alloc _
  have Q0 : Blk w1 (k + 1) #[.int .u8 q.tos, .int .u16 q.id, .bool q.keep, .int .u8 q.ttl, .int .u8 q.proto, .int .u32 q.src, .int .u32 q.dst, .slice B1 m1 d1, .slice B2 m2 d2] 26 := by rw [← hw1]; exact blk_new _ _ _ (k + 1) (by simp [hk])
  have R1 : Below w.heap.size w w1 := by rw [← hw1]; (repeat (first | with_reducible exact Below.refl _ _ | with_reducible refine below_drew ?_ | with_reducible refine below_drewN ?_ _ | with_reducible refine below_alloc ?_ (Nat.le_refl _) _ | with_reducible refine Below.setCell ?_ (by first | exact Nat.le_refl _ | (simp only []; omega)) _ | with_reducible assumption))
  have x1 := k1.below R1
  have x2 := k2.below R1
  have y1 := j1.below R1
  have y2 := j2.below R1
  have pc := P0.cell
  clear k1 k2 j1 j2
  go_enter Try.func3, Try.ntmps3
  go_wp2_with (first
    | (go_at_call 14; ((with_reducible refine (cb _ x1 x2).mono ?_); rintro e w3 ⟨A3, n3, c3, rfl, ho3, hB3⟩); have pc3 := (P0.below hB3).cell; have x3 := x1.below hB3; have x4 := x2.below hB3)
    | (go_at_call 15; ((with_reducible refine (cr _ x3 x4).mono ?_); rintro e w4 ⟨A4, n4, c4, rfl, ho4, hB4⟩); have T4 := below_then hB3 hB4; have z3 := ho3.bs.below hB4; have z4 := ho4.bs))
  have P4 := P0.below T4
  have Q4 := Q0.below T4
  have x5 := x1.below T4
  have x6 := x2.below T4
  have y5 := y1.below T4
  have y6 := y2.below T4
  clear cb cr P0 Q0 x1 x2 x3 x4 y1 y2 pc pc3 ho3 ho4 hB3 hB4 hw1
  refine region_txt 30 (by kernel_rfl) (by kernel_rfl) ?_; (iterate 30 (first | (apply ObsK.skip (by rfl)) | (apply ObsK.v (by rfl); (intro wo hT; (repeat (first | (intro _ _ k; try have hcv := cv k))); (have g0 := (P4.below hT).cell; have g1 := (Q4.below hT).cell; have ca := cv (z3.below hT); have cb := cv (z4.below hT); have u1 := x5.below hT; have u2 := x6.below hT; have u3 := y5.below hT; have u4 := y6.below hT); refine Goes.mk ?_; go_simp; first | exact goes_v | exact goes_b (by assumption) | (refine goes_enter ?_; first | (go_at_call 16; ((with_reducible refine (live02_any wo).mono ?_); rintro e w8 ⟨rfl, hB8⟩); exact ret_v hB8) | (go_at_call 17; ((with_reducible refine (right_any p A1 n1 c1 A2 n2 c2 wo u1 u2).mono ?_); rintro e w8 ⟨rfl, hB8⟩); exact ret_v hB8) | (go_at_call 18; ((with_reducible refine (rright_any p A1 n1 c1 A2 n2 c2 wo u1 u2).mono ?_); rintro e w8 ⟨rfl, hB8⟩); exact ret_v hB8) | (go_at_call 19; ((with_reducible refine (same_any p q A1 n1 c1 A2 n2 c2 B1 m1 d1 B2 m2 d2 wo u1 u2 u3 u4).mono ?_); rintro e w8 ⟨rfl, hB8⟩); exact ret_v hB8) | (go_at_call 20; ((with_reducible refine (rsame_any p q A1 n1 c1 A2 n2 c2 B1 m1 d1 B2 m2 d2 wo u1 u2 u3 u4).mono ?_); rintro e w8 ⟨rfl, hB8⟩); exact ret_v hB8)))) | (apply ObsK.b (by rfl); (intro wo hT; (repeat (first | (intro _ _ k; try have hcv := cv k))); (have g0 := (P4.below hT).cell; have g1 := (Q4.below hT).cell; have ca := cv (z3.below hT); have cb := cv (z4.below hT); have u1 := x5.below hT; have u2 := x6.below hT; have u3 := y5.below hT; have u4 := y6.below hT); refine Goes.mk ?_; go_simp; first | exact goes_v | exact goes_b (by assumption) | (refine goes_enter ?_; first | (go_at_call 16; ((with_reducible refine (live02_any wo).mono ?_); rintro e w8 ⟨rfl, hB8⟩); exact ret_v hB8) | (go_at_call 17; ((with_reducible refine (right_any p A1 n1 c1 A2 n2 c2 wo u1 u2).mono ?_); rintro e w8 ⟨rfl, hB8⟩); exact ret_v hB8) | (go_at_call 18; ((with_reducible refine (rright_any p A1 n1 c1 A2 n2 c2 wo u1 u2).mono ?_); rintro e w8 ⟨rfl, hB8⟩); exact ret_v hB8) | (go_at_call 19; ((with_reducible refine (same_any p q A1 n1 c1 A2 n2 c2 B1 m1 d1 B2 m2 d2 wo u1 u2 u3 u4).mono ?_); rintro e w8 ⟨rfl, hB8⟩); exact ret_v hB8) | (go_at_call 20; ((with_reducible refine (rsame_any p q A1 n1 c1 A2 n2 c2 B1 m1 d1 B2 m2 d2 wo u1 u2 u3 u4).mono ?_); rintro e w8 ⟨rfl, hB8⟩); exact ret_v hB8)))))); refine ObsK.nil ?_; intro wz hBz; simp only [finOn, List.drop_succ_cons, List.drop_zero, List.drop_nil]
  intros; go_simp
  go_wp2_with fail
  go_ret
  exact ⟨rfl, below_then (below_then R1 T4) hBz⟩
end Go.Proofs.Ytkjhickjgncheaa

/- CtrlBuilds. -/
import Derived.Test.YtogbncpchmnbdaaLive4
import Derived.Test.YtogbncpchmnbdaaGre5R
import Derived.Test.YtogbncpchmnbdaaMsg4
import Derived.Test.YtogbncpchmnbdaaSame4
namespace Go.Proofs.Ytogbncpchmnbdaa
open Go.RowKit
set_option linter.unusedVariables false
set_option linter.unusedSimpArgs false
set_option maxHeartbeats 4000000
set_option maxRecDepth 100000

theorem ctrlBuilds_walk (w : World) (p : Pkt) (hp : p.Ok) (A1 : Option Addr) (n1 c1 : Nat) (A2 : Option Addr) (n2 c2 : Nat) (k1 : Bs w A1 n1 c1 p.opt) (k2 : Bs w A2 n2 c2 p.dat)
    (m : Msg) (hm : m.Ok) (B1 : Option Addr) (m1 d1 : Nat) (j1 : Bs w B1 m1 d1 m.dat) (hm1 : m1 ≤ 140737488351232)
    (f : Frm) (hf : f.Ok) (B2 : Option Addr) (m2 d2 : Nat) (j2 : Bs w B2 m2 d2 f.dat) (hm2 : m2 ≤ 140737488351232) :
    Calls Try.prog 3 #[(.agg #[.int .u8 (p).tos, .int .u16 (p).id, .bool (p).keep, .int .u8 (p).ttl, .int .u8 (p).proto, .int .u32 (p).src, .int .u32 (p).dst, .slice A1 n1 c1, .slice A2 n2 c2]), (.agg #[.int .u8 (m).ty, .int .u8 (m).code, .int .u32 (m).rest, .slice B1 m1 d1]), (.agg #[.int .u16 (f).call, .bool (f).hs, .bool (f).ha, .int .u32 (f).seq, .int .u32 (f).ack, .slice B2 m2 d2])] w fun e w' => e = .returned (.bool true) ∧ Below w.heap.size w w' := by
  have ca := fun W k1 j1 => bicmp_any p A1 n1 c1 A2 n2 c2 m hm B1 m1 d1 W k1 j1 (by omega)
  have cb := fun W k1 j1 => rbicmp_any p A1 n1 c1 A2 n2 c2 m hm B1 m1 d1 W k1 j1
  have cc := fun W k1 j1 => bg_any p A1 n1 c1 A2 n2 c2 f hf B2 m2 d2 W k1 j1 (by omega)
  have cd := fun W k1 j1 => rbg_any p A1 n1 c1 A2 n2 c2 f hf B2 m2 d2 W k1 j1
  obtain ⟨P1, hP1⟩ : ∃ P, withP p 1 (mS m) = P := ⟨_, rfl⟩
  obtain ⟨E1, hE1⟩ : ∃ E, wiE p (8 + m.dat.length) = E := ⟨_, rfl⟩
  obtain ⟨P2, hP2⟩ : ∃ P, bgP p f = P := ⟨_, rfl⟩
  obtain ⟨E2, hE2⟩ : ∃ E, bgE p f = E := ⟨_, rfl⟩
  simp only [hP1, hE1, hP2, hE2] at ca cb cc cd
  clear hP1 hE1 hP2 hE2
  obtain ⟨k, hk⟩ : ∃ k : Nat, w.heap.size = k := ⟨_, rfl⟩
  obtain ⟨w1, hw1⟩ : ∃ w1, ((w.alloc (.cells #[.int .u8 (p).tos, .int .u16 (p).id, .bool (p).keep, .int .u8 (p).ttl, .int .u8 (p).proto, .int .u32 (p).src, .int .u32 (p).dst, .slice A1 n1 c1, .slice A2 n2 c2] 26)).alloc (.cells #[.int .u8 (m).ty, .int .u8 (m).code, .int .u32 (m).rest, .slice B1 m1 d1] 28)).alloc (.cells #[.int .u16 (f).call, .bool (f).hs, .bool (f).ha, .int .u32 (f).seq, .int .u32 (f).ack, .slice B2 m2 d2] 30) = w1 := ⟨_, rfl⟩
  have Q0 : Blk w1 k #[.int .u8 (p).tos, .int .u16 (p).id, .bool (p).keep, .int .u8 (p).ttl, .int .u8 (p).proto, .int .u32 (p).src, .int .u32 (p).dst, .slice A1 n1 c1, .slice A2 n2 c2] 26 := by rw [← hw1]; exact ((blk_new w _ _ k hk).alloc _).alloc _
  have M0 : Blk w1 (k + 1) #[.int .u8 (m).ty, .int .u8 (m).code, .int .u32 (m).rest, .slice B1 m1 d1] 28 := by rw [← hw1]; exact (blk_new _ _ _ (k + 1) (by simp [hk])).alloc _
  have F0 : Blk w1 (k + 1 + 1) #[.int .u16 (f).call, .bool (f).hs, .bool (f).ha, .int .u32 (f).seq, .int .u32 (f).ack, .slice B2 m2 d2] 30 := by rw [← hw1]; exact blk_new _ _ _ (k + 1 + 1) (by simp [hk])
  have R1 : Below w.heap.size w w1 := by rw [← hw1]; (repeat (first | with_reducible exact Below.refl _ _ | with_reducible refine below_drew ?_ | with_reducible refine below_drewN ?_ _ | with_reducible refine below_alloc ?_ (Nat.le_refl _) _ | with_reducible refine Below.setCell ?_ (by first | exact Nat.le_refl _ | (simp only []; omega)) _ | with_reducible assumption))
  have x1 := k1.below R1
  have y1 := j1.below R1
  have y2 := j2.below R1
  have qc := Q0.cell
  have mc := M0.cell
  have fc := F0.cell
  clear k1 k2 j1 j2
  go_enter Try.func3, Try.ntmps3
  go_wp2_with (first
    | (go_at_call 14; go_loud ((with_reducible refine (ca _ x1 y1).mono ?_); rintro e u2 hpost; (obtain ⟨C1, e1, g1, C2, e2, g2, rfl, O1, O2, hB2⟩ := hpost.out); clear hpost; (obtain ⟨w2, hw2⟩ : ∃ w2, u2.alloc (.cells #[.int .u8 (P1).tos, .int .u16 (P1).id, .bool (P1).keep, .int .u8 (P1).ttl, .int .u8 (P1).proto, .int .u32 (P1).src, .int .u32 (P1).dst, .slice C1 e1 g1, .slice C2 e2 g2] 26) = w2 := ⟨_, rfl⟩); have V2 : Below u2.heap.size u2 w2 := (by rw [← hw2]; (repeat (first | with_reducible exact Below.refl _ _ | with_reducible refine below_drew ?_ | with_reducible refine below_drewN ?_ _ | with_reducible refine below_alloc ?_ (Nat.le_refl _) _ | with_reducible refine Below.setCell ?_ (by first | exact Nat.le_refl _ | (simp only []; omega)) _ | with_reducible assumption))); (obtain ⟨k2, hk2⟩ : ∃ k, u2.heap.size = k := ⟨_, rfl⟩); have S2 : Blk w2 k2 #[.int .u8 (P1).tos, .int .u16 (P1).id, .bool (P1).keep, .int .u8 (P1).ttl, .int .u8 (P1).proto, .int .u32 (P1).src, .int .u32 (P1).dst, .slice C1 e1 g1, .slice C2 e2 g2] 26 := (by rw [← hw2]; exact blk_new u2 _ _ k2 hk2); have T2 := below_then hB2 V2; have r1 := O1.bs.below V2; have r2 := O2.bs.below V2; have Q2 := Q0.below T2; have M2 := M0.below T2; have F2 := F0.below T2; have qc2 := Q2.cell; have mc2 := M2.cell; have fc2 := F2.cell; have sc2 := S2.cell; have x2 := x1.below T2; have y3 := y1.below T2; have y4 := y2.below T2))
    | (go_at_call 15; go_loud ((with_reducible refine (cb _ x2 y3).mono ?_); rintro e u3 hpost; (obtain ⟨C3, e3, g3, C4, e4, g4, rfl, O3, O4, hB3⟩ := hpost.out); clear hpost; (obtain ⟨w3, hw3⟩ : ∃ w3, u3.alloc (.cells #[.int .u8 (P1).tos, .int .u16 (P1).id, .bool (P1).keep, .int .u8 (P1).ttl, .int .u8 (P1).proto, .int .u32 (P1).src, .int .u32 (P1).dst, .slice C3 e3 g3, .slice C4 e4 g4] 26) = w3 := ⟨_, rfl⟩); have V3 : Below u3.heap.size u3 w3 := (by rw [← hw3]; (repeat (first | with_reducible exact Below.refl _ _ | with_reducible refine below_drew ?_ | with_reducible refine below_drewN ?_ _ | with_reducible refine below_alloc ?_ (Nat.le_refl _) _ | with_reducible refine Below.setCell ?_ (by first | exact Nat.le_refl _ | (simp only []; omega)) _ | with_reducible assumption))); (obtain ⟨k3, hk3⟩ : ∃ k, u3.heap.size = k := ⟨_, rfl⟩); have S3 : Blk w3 k3 #[.int .u8 (P1).tos, .int .u16 (P1).id, .bool (P1).keep, .int .u8 (P1).ttl, .int .u8 (P1).proto, .int .u32 (P1).src, .int .u32 (P1).dst, .slice C3 e3 g3, .slice C4 e4 g4] 26 := (by rw [← hw3]; exact blk_new u3 _ _ k3 hk3); have T3 := below_then hB3 V3; have r3 := O3.bs.below V3; have r4 := O4.bs.below V3; have Q3 := Q2.below T3; have F3 := F2.below T3; have qc3 := Q3.cell; have fc3 := F3.cell; have sc3 := S3.cell; have x3 := x2.below T3; have y5 := y4.below T3))
    | (go_at_call 16; go_loud ((with_reducible refine (cc _ x3 y5).mono ?_); rintro e u4 hpost; (obtain ⟨C5, e5, g5, C6, e6, g6, rfl, O5, O6, hB4⟩ := hpost.out); clear hpost; (obtain ⟨w4, hw4⟩ : ∃ w4, u4.alloc (.cells #[.int .u8 (P2).tos, .int .u16 (P2).id, .bool (P2).keep, .int .u8 (P2).ttl, .int .u8 (P2).proto, .int .u32 (P2).src, .int .u32 (P2).dst, .slice C5 e5 g5, .slice C6 e6 g6] 26) = w4 := ⟨_, rfl⟩); have V4 : Below u4.heap.size u4 w4 := (by rw [← hw4]; (repeat (first | with_reducible exact Below.refl _ _ | with_reducible refine below_drew ?_ | with_reducible refine below_drewN ?_ _ | with_reducible refine below_alloc ?_ (Nat.le_refl _) _ | with_reducible refine Below.setCell ?_ (by first | exact Nat.le_refl _ | (simp only []; omega)) _ | with_reducible assumption))); (obtain ⟨k4, hk4⟩ : ∃ k, u4.heap.size = k := ⟨_, rfl⟩); have S4 : Blk w4 k4 #[.int .u8 (P2).tos, .int .u16 (P2).id, .bool (P2).keep, .int .u8 (P2).ttl, .int .u8 (P2).proto, .int .u32 (P2).src, .int .u32 (P2).dst, .slice C5 e5 g5, .slice C6 e6 g6] 26 := (by rw [← hw4]; exact blk_new u4 _ _ k4 hk4); have T4 := below_then hB4 V4; have r5 := O5.bs.below V4; have r6 := O6.bs.below V4; have Q4 := Q3.below T4; have F4 := F3.below T4; have qc4 := Q4.cell; have fc4 := F4.cell; have sc4 := S4.cell; have x4 := x3.below T4; have y6 := y5.below T4))
    | (go_at_call 17; go_loud ((with_reducible refine (cd _ x4 y6).mono ?_); rintro e u5 hpost; (obtain ⟨C7, e7, g7, C8, e8, g8, rfl, O7, O8, hB5⟩ := hpost.out); clear hpost; (obtain ⟨w5, hw5⟩ : ∃ w5, u5.alloc (.cells #[.int .u8 (P2).tos, .int .u16 (P2).id, .bool (P2).keep, .int .u8 (P2).ttl, .int .u8 (P2).proto, .int .u32 (P2).src, .int .u32 (P2).dst, .slice C7 e7 g7, .slice C8 e8 g8] 26) = w5 := ⟨_, rfl⟩); have V5 : Below u5.heap.size u5 w5 := (by rw [← hw5]; (repeat (first | with_reducible exact Below.refl _ _ | with_reducible refine below_drew ?_ | with_reducible refine below_drewN ?_ _ | with_reducible refine below_alloc ?_ (Nat.le_refl _) _ | with_reducible refine Below.setCell ?_ (by first | exact Nat.le_refl _ | (simp only []; omega)) _ | with_reducible assumption))); (obtain ⟨k5, hk5⟩ : ∃ k, u5.heap.size = k := ⟨_, rfl⟩); have S5 : Blk w5 k5 #[.int .u8 (P2).tos, .int .u16 (P2).id, .bool (P2).keep, .int .u8 (P2).ttl, .int .u8 (P2).proto, .int .u32 (P2).src, .int .u32 (P2).dst, .slice C7 e7 g7, .slice C8 e8 g8] 26 := (by rw [← hw5]; exact blk_new u5 _ _ k5 hk5); have T5 := below_then hB5 V5; have r7 := O7.bs.below V5; have r8 := O8.bs.below V5))
    | (go_at_call 18; go_loud ((with_reducible refine (live04_any _).mono ?_); rintro e w6 ⟨rfl, hB6⟩; have T6 := below_then T5 hB6; have U6 := below_then T4 T6; have X6 := below_then T3 U6; have s2 := (S2.below X6); have s3 := (S3.below U6); have s4 := (S4.below T6); have s5 := (S5.below hB6); have c2' := s2.cell; have c3' := s3.cell; have c4' := s4.cell; have c5' := s5.cell; have z1 := r1.below X6; have z2 := r2.below X6; have z3 := r3.below U6; have z4 := r4.below U6; have z5 := r5.below T6; have z6 := r6.below T6; have z7 := r7.below hB6; have z8 := r8.below hB6))
    | (go_at_call 19; go_loud ((with_reducible refine (rsame_self4 P1 C1 e1 g1 C2 e2 g2 C3 e3 g3 C4 e4 g4 _ z1 z2 z3 z4).mono ?_); rintro e w7 ⟨rfl, hB7⟩; have c4'' := (s4.below hB7).cell; have c5'' := (s5.below hB7).cell; have z5' := z5.below hB7; have z6' := z6.below hB7; have z7' := z7.below hB7; have z8' := z8.below hB7))
    | (go_at_call 19; go_loud ((with_reducible refine (rsame_self4 P2 C5 e5 g5 C6 e6 g6 C7 e7 g7 C8 e8 g8 _ z5' z6' z7' z8').mono ?_); rintro e w8 ⟨rfl, hB8⟩)))
  go_ret
  exact ⟨rfl, below_then (below_then R1 (below_then T2 X6)) (below_then hB7 hB8)⟩
end Go.Proofs.Ytogbncpchmnbdaa

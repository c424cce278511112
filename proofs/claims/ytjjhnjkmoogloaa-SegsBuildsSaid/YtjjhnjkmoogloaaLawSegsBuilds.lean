/- The Go law SegsBuilds: for every input the call returns true and each argument reads as it did. No other condition. -/
import Derived.Test.YtjjhnjkmoogloaaK5
import Derived.Test.YtjjhnjkmoogloaaK4
import Derived.Test.YtjjhnjkmoogloaaK2
/- SegsUdp, SegsBuilds. -/
namespace Go.Proofs.Ytjjhnjkmoogloaa
open Go.RowKit
set_option linter.unusedVariables false
set_option linter.unusedSimpArgs false
set_option maxHeartbeats 4000000
set_option maxRecDepth 100000

theorem segsUdp_walk (w : World) (p : Pkt) (hp : p.Ok) (A1 : Option Addr) (n1 c1 : Nat) (A2 : Option Addr) (n2 c2 : Nat) (k1 : Bs w A1 n1 c1 p.opt) (k2 : Bs w A2 n2 c2 p.dat) :
    Calls Try.prog 9 #[(.agg #[.int .u8 (p).tos, .int .u16 (p).id, .bool (p).keep, .int .u8 (p).ttl, .int .u8 (p).proto, .int .u32 (p).src, .int .u32 (p).dst, .slice A1 n1 c1, .slice A2 n2 c2])] w fun e w' => e = .returned (.bool true) ∧ Below w.heap.size w w' := by
  have ca := fun W k2 => udp_any p hp A1 n1 c1 A2 n2 c2 W k2
  have cb := fun W k2 => rudp_any p hp A1 n1 c1 A2 n2 c2 W k2
  obtain ⟨d, hd⟩ : ∃ d, udD p = d := ⟨_, rfl⟩
  obtain ⟨E, hE⟩ : ∃ E, udE p = E := ⟨_, rfl⟩
  rw [hd, hE] at ca cb
  have cs := fun W X n c Y m e k j => rdsame_any d d X n c Y m e W k j
  simp only [sameD_self] at cs
  clear hd hE
  obtain ⟨k, hk⟩ : ∃ k : Nat, w.heap.size = k := ⟨_, rfl⟩
  obtain ⟨w1, hw1⟩ : ∃ W, (w.alloc (.cells #[.int .u8 (p).tos, .int .u16 (p).id, .bool (p).keep, .int .u8 (p).ttl, .int .u8 (p).proto, .int .u32 (p).src, .int .u32 (p).dst, .slice A1 n1 c1, .slice A2 n2 c2] 26)) = W := ⟨_, rfl⟩
  have P1 : Blk w1 k #[.int .u8 (p).tos, .int .u16 (p).id, .bool (p).keep, .int .u8 (p).ttl, .int .u8 (p).proto, .int .u32 (p).src, .int .u32 (p).dst, .slice A1 n1 c1, .slice A2 n2 c2] 26 := by rw [← hw1]; exact (blk_new _ _ _ k (by simp [hk]))
  have R1 : Below w.heap.size w w1 := by rw [← hw1]; (repeat (first | with_reducible exact Below.refl _ _ | with_reducible refine below_drew ?_ | with_reducible refine below_drewN ?_ _ | with_reducible refine below_alloc ?_ (Nat.le_refl _) _ | with_reducible refine Below.setCell ?_ (by first | exact Nat.le_refl _ | (simp only []; omega)) _ | with_reducible assumption))
  have Pc1 := P1.cell
  have Pl1 := P1.lt
  have x1 := (k1).below R1
  have y1 := (k2).below R1
  clear k1 k2
  go_enter Try.func9, Try.ntmps9
  go_wp2_with (first
    | (go_at_call 27; ((with_reducible refine (ca w1 y1).mono ?_); rintro e u2 ⟨⟨X1, xn1, xc1, rfl, xo1, hB2⟩⟩); (obtain ⟨w2, hw2⟩ : ∃ W, u2.alloc (.cells #[.int .u16 (d).src, .int .u16 (d).dst, .bool (d).bare, .slice X1 xn1 xc1] 37) = W := ⟨_, rfl⟩); have V2 : Below u2.heap.size u2 w2 := (by rw [← hw2]; (repeat (first | with_reducible exact Below.refl _ _ | with_reducible refine below_drew ?_ | with_reducible refine below_drewN ?_ _ | with_reducible refine below_alloc ?_ (Nat.le_refl _) _ | with_reducible refine Below.setCell ?_ (by first | exact Nat.le_refl _ | (simp only []; omega)) _ | with_reducible assumption))); (obtain ⟨kD2, hkD2⟩ : ∃ k : Nat, u2.heap.size = k := ⟨_, rfl⟩); have D2 : Blk w2 kD2 #[.int .u16 (d).src, .int .u16 (d).dst, .bool (d).bare, .slice X1 xn1 xc1] 37 := (by rw [← hw2]; exact blk_new u2 _ _ _ hkD2); have Dc2 := D2.cell; have T2 := below_then hB2 V2; have z2 := (xo1.bs).below V2; have P2 := P1.below T2; have Pc2 := P2.cell; clear Pc1; have x2 := x1.below T2; have y2 := y1.below T2; have R2 := below_then R1 T2)
    | (go_at_call 28; ((with_reducible refine (cb w2 y2).mono ?_); rintro e u3 ⟨⟨X2, xn2, xc2, rfl, xo2, hB3⟩⟩); (obtain ⟨w3, hw3⟩ : ∃ W, u3.alloc (.cells #[.int .u16 (d).src, .int .u16 (d).dst, .bool (d).bare, .slice X2 xn2 xc2] 37) = W := ⟨_, rfl⟩); have V3 : Below u3.heap.size u3 w3 := (by rw [← hw3]; (repeat (first | with_reducible exact Below.refl _ _ | with_reducible refine below_drew ?_ | with_reducible refine below_drewN ?_ _ | with_reducible refine below_alloc ?_ (Nat.le_refl _) _ | with_reducible refine Below.setCell ?_ (by first | exact Nat.le_refl _ | (simp only []; omega)) _ | with_reducible assumption))); (obtain ⟨kF3, hkF3⟩ : ∃ k : Nat, u3.heap.size = k := ⟨_, rfl⟩); have F3 : Blk w3 kF3 #[.int .u16 (d).src, .int .u16 (d).dst, .bool (d).bare, .slice X2 xn2 xc2] 37 := (by rw [← hw3]; exact blk_new u3 _ _ _ hkF3); have Fc3 := F3.cell; have T3 := below_then hB3 V3; have v3 := (xo2.bs).below V3; have P3 := P2.below T3; have Pc3 := P3.cell; clear Pc2; have D3 := D2.below T3; have Dc3 := D3.cell; clear Dc2; have x3 := x2.below T3; have y3 := y2.below T3; have z3 := z2.below T3; have R3 := below_then R2 T3)
    | (go_at_call 16; ((with_reducible refine (live03_any w3).mono ?_); rintro e w4 ⟨rfl, hB4⟩); have P4 := P3.below hB4; have Pc4 := P4.cell; clear Pc3; have D4 := D3.below hB4; have Dc4 := D4.cell; clear Dc3; have F4 := F3.below hB4; have Fc4 := F4.cell; clear Fc3; have x4 := x3.below hB4; have y4 := y3.below hB4; have z4 := z3.below hB4; have v4 := v3.below hB4; have R4 := below_then R3 hB4)
    | (go_at_call 29; ((with_reducible refine (cs w4 X1 xn1 xc1 X2 xn2 xc2 z4 v4).mono ?_); rintro e w5 ⟨rfl, hB5⟩); have P5 := P4.below hB5; have Pc5 := P5.cell; clear Pc4; have D5 := D4.below hB5; have Dc5 := D5.cell; clear Dc4; have F5 := F4.below hB5; have Fc5 := F5.cell; clear Fc4; have x5 := x4.below hB5; have y5 := y4.below hB5; have z5 := z4.below hB5; have v5 := v4.below hB5; have R5 := below_then R4 hB5))
  go_ret
  exact ⟨rfl, R5⟩
theorem segsBuilds_walk (w : World) (p : Pkt) (hp : p.Ok) (A1 : Option Addr) (n1 c1 : Nat) (A2 : Option Addr) (n2 c2 : Nat) (k1 : Bs w A1 n1 c1 p.opt) (k2 : Bs w A2 n2 c2 p.dat) (s : Seg) (hs : s.Ok) (OA : Option Addr) (on oc : Nat) (A3 : Option Addr) (n3 c3 : Nat) (K1 : Os w OA on oc s.opts) (k3 : Bs w A3 n3 c3 s.dat) (hn3 : n3 ≤ 140737488351232)
    (f : Dgm) (hf : f.Ok) (B1 : Option Addr) (m1 d1 : Nat) (j1 : Bs w B1 m1 d1 f.dat) (hm1 : m1 ≤ 140737488351232) :
    Calls Try.prog 4 #[(.agg #[.int .u8 (p).tos, .int .u16 (p).id, .bool (p).keep, .int .u8 (p).ttl, .int .u8 (p).proto, .int .u32 (p).src, .int .u32 (p).dst, .slice A1 n1 c1, .slice A2 n2 c2]), (.agg #[.int .u16 (s).src, .int .u16 (s).dst, .int .u32 (s).seq, .int .u32 (s).ack, .int .u8 (s).flags, .int .u16 (s).win, .int .u16 (s).urg, .slice OA on oc, .slice A3 n3 c3]), (.agg #[.int .u16 (f).src, .int .u16 (f).dst, .bool (f).bare, .slice B1 m1 d1])] w fun e w' => e = .returned (.bool true) ∧ Below w.heap.size w w' := by
  have ca := fun W k1 K1 k3 => sbuild_any p hp A1 n1 c1 A2 n2 c2 s hs OA on oc A3 n3 c3 W k1 K1 k3 hn3
  have cb := fun W k1 K1 k3 => rsbuild_any p hp A1 n1 c1 A2 n2 c2 s hs OA on oc A3 n3 c3 W k1 K1 k3 (by omega)
  have cc := fun W k1 j1 => dbuild_any p hp A1 n1 c1 A2 n2 c2 f hf B1 m1 d1 W k1 j1 hm1
  have cd := fun W k1 j1 => rdbuild_any p hp A1 n1 c1 A2 n2 c2 f hf B1 m1 d1 W k1 j1
  obtain ⟨a, ha⟩ : ∃ a, sbP p s = a := ⟨_, rfl⟩
  obtain ⟨E, hE⟩ : ∃ E, sbE p s = E := ⟨_, rfl⟩
  obtain ⟨b, hb⟩ : ∃ b, dbP p f = b := ⟨_, rfl⟩
  obtain ⟨G, hG⟩ : ∃ G, dbE p f = G := ⟨_, rfl⟩
  simp only [ha, hE] at ca cb
  simp only [hb, hG] at cc cd
  have cs := fun W A1 n1 c1 A2 n2 c2 B1 m1 d1 B2 m2 d2 h1 h2 h3 h4 => rsame_self4 a A1 n1 c1 A2 n2 c2 B1 m1 d1 B2 m2 d2 W h1 h2 h3 h4
  have ct := fun W A1 n1 c1 A2 n2 c2 B1 m1 d1 B2 m2 d2 h1 h2 h3 h4 => rsame_self4 b A1 n1 c1 A2 n2 c2 B1 m1 d1 B2 m2 d2 W h1 h2 h3 h4
  clear ha hE hb hG
  obtain ⟨k, hk⟩ : ∃ k : Nat, w.heap.size = k := ⟨_, rfl⟩
  obtain ⟨w1, hw1⟩ : ∃ W, (((w.alloc (.cells #[.int .u8 (p).tos, .int .u16 (p).id, .bool (p).keep, .int .u8 (p).ttl, .int .u8 (p).proto, .int .u32 (p).src, .int .u32 (p).dst, .slice A1 n1 c1, .slice A2 n2 c2] 26)).alloc (.cells #[.int .u16 (s).src, .int .u16 (s).dst, .int .u32 (s).seq, .int .u32 (s).ack, .int .u8 (s).flags, .int .u16 (s).win, .int .u16 (s).urg, .slice OA on oc, .slice A3 n3 c3] 29)).alloc (.cells #[.int .u16 (f).src, .int .u16 (f).dst, .bool (f).bare, .slice B1 m1 d1] 37)) = W := ⟨_, rfl⟩
  have P1 : Blk w1 k #[.int .u8 (p).tos, .int .u16 (p).id, .bool (p).keep, .int .u8 (p).ttl, .int .u8 (p).proto, .int .u32 (p).src, .int .u32 (p).dst, .slice A1 n1 c1, .slice A2 n2 c2] 26 := by rw [← hw1]; exact (((blk_new _ _ _ k (by simp [hk])).alloc _).alloc _)
  have S1 : Blk w1 (k + 1) #[.int .u16 (s).src, .int .u16 (s).dst, .int .u32 (s).seq, .int .u32 (s).ack, .int .u8 (s).flags, .int .u16 (s).win, .int .u16 (s).urg, .slice OA on oc, .slice A3 n3 c3] 29 := by rw [← hw1]; exact ((blk_new _ _ _ (k + 1) (by simp [hk])).alloc _)
  have F1 : Blk w1 (k + 1 + 1) #[.int .u16 (f).src, .int .u16 (f).dst, .bool (f).bare, .slice B1 m1 d1] 37 := by rw [← hw1]; exact (blk_new _ _ _ (k + 1 + 1) (by simp [hk]))
  have R1 : Below w.heap.size w w1 := by rw [← hw1]; (repeat (first | with_reducible exact Below.refl _ _ | with_reducible refine below_drew ?_ | with_reducible refine below_drewN ?_ _ | with_reducible refine below_alloc ?_ (Nat.le_refl _) _ | with_reducible refine Below.setCell ?_ (by first | exact Nat.le_refl _ | (simp only []; omega)) _ | with_reducible assumption))
  have Pc1 := P1.cell
  have Sc1 := S1.cell
  have Fc1 := F1.cell
  have Pl1 := P1.lt
  have Sl1 := S1.lt
  have Fl1 := F1.lt
  have x1 := (k1).below R1
  have y1 := (k3).below R1
  have z1 := (j1).below R1
  have KK1 := K1.below R1
  clear k1 k3 j1 k2
  go_enter Try.func4, Try.ntmps4
  go_wp2_with (first
    | (go_at_call 18; ((with_reducible refine (ca w1 x1 KK1 y1).mono ?_); rintro e u2 ⟨⟨X1, xn1, xc1, Y1, yn1, yc1, rfl, xo1, yo1, hB2⟩⟩); (obtain ⟨w2, hw2⟩ : ∃ W, u2.alloc (.cells #[.int .u8 (a).tos, .int .u16 (a).id, .bool (a).keep, .int .u8 (a).ttl, .int .u8 (a).proto, .int .u32 (a).src, .int .u32 (a).dst, .slice X1 xn1 xc1, .slice Y1 yn1 yc1] 26) = W := ⟨_, rfl⟩); have V2 : Below u2.heap.size u2 w2 := (by rw [← hw2]; (repeat (first | with_reducible exact Below.refl _ _ | with_reducible refine below_drew ?_ | with_reducible refine below_drewN ?_ _ | with_reducible refine below_alloc ?_ (Nat.le_refl _) _ | with_reducible refine Below.setCell ?_ (by first | exact Nat.le_refl _ | (simp only []; omega)) _ | with_reducible assumption))); (obtain ⟨kM2, hkM2⟩ : ∃ k : Nat, u2.heap.size = k := ⟨_, rfl⟩); have M2 : Blk w2 kM2 #[.int .u8 (a).tos, .int .u16 (a).id, .bool (a).keep, .int .u8 (a).ttl, .int .u8 (a).proto, .int .u32 (a).src, .int .u32 (a).dst, .slice X1 xn1 xc1, .slice Y1 yn1 yc1] 26 := (by rw [← hw2]; exact blk_new u2 _ _ _ hkM2); have Mc2 := M2.cell; have T2 := below_then hB2 V2; have s2 := (xo1.bs).below V2; have t2 := (yo1.bs).below V2; have P2 := P1.below T2; have Pc2 := P2.cell; clear Pc1; have S2 := S1.below T2; have Sc2 := S2.cell; clear Sc1; have F2 := F1.below T2; have Fc2 := F2.cell; clear Fc1; have x2 := x1.below T2; have y2 := y1.below T2; have z2 := z1.below T2; have R2 := below_then R1 T2; have KK2 := KK1.below T2)
    | (go_at_call 19; ((with_reducible refine (cb w2 x2 KK2 y2).mono ?_); rintro e u3 ⟨⟨X2, xn2, xc2, Y2, yn2, yc2, rfl, xo2, yo2, hB3⟩⟩); (obtain ⟨w3, hw3⟩ : ∃ W, u3.alloc (.cells #[.int .u8 (a).tos, .int .u16 (a).id, .bool (a).keep, .int .u8 (a).ttl, .int .u8 (a).proto, .int .u32 (a).src, .int .u32 (a).dst, .slice X2 xn2 xc2, .slice Y2 yn2 yc2] 26) = W := ⟨_, rfl⟩); have V3 : Below u3.heap.size u3 w3 := (by rw [← hw3]; (repeat (first | with_reducible exact Below.refl _ _ | with_reducible refine below_drew ?_ | with_reducible refine below_drewN ?_ _ | with_reducible refine below_alloc ?_ (Nat.le_refl _) _ | with_reducible refine Below.setCell ?_ (by first | exact Nat.le_refl _ | (simp only []; omega)) _ | with_reducible assumption))); (obtain ⟨kN3, hkN3⟩ : ∃ k : Nat, u3.heap.size = k := ⟨_, rfl⟩); have N3 : Blk w3 kN3 #[.int .u8 (a).tos, .int .u16 (a).id, .bool (a).keep, .int .u8 (a).ttl, .int .u8 (a).proto, .int .u32 (a).src, .int .u32 (a).dst, .slice X2 xn2 xc2, .slice Y2 yn2 yc2] 26 := (by rw [← hw3]; exact blk_new u3 _ _ _ hkN3); have Nc3 := N3.cell; have T3 := below_then hB3 V3; have u3 := (xo2.bs).below V3; have v3 := (yo2.bs).below V3; have P3 := P2.below T3; have Pc3 := P3.cell; clear Pc2; have S3 := S2.below T3; have Sc3 := S3.cell; clear Sc2; have F3 := F2.below T3; have Fc3 := F3.cell; clear Fc2; have M3 := M2.below T3; have Mc3 := M3.cell; clear Mc2; have x3 := x2.below T3; have y3 := y2.below T3; have z3 := z2.below T3; have s3 := s2.below T3; have t3 := t2.below T3; have R3 := below_then R2 T3)
    | (go_at_call 20; ((with_reducible refine (cc w3 x3 z3).mono ?_); rintro e u4 ⟨⟨X3, xn3, xc3, Y3, yn3, yc3, rfl, xo3, yo3, hB4⟩⟩); (obtain ⟨w4, hw4⟩ : ∃ W, u4.alloc (.cells #[.int .u8 (b).tos, .int .u16 (b).id, .bool (b).keep, .int .u8 (b).ttl, .int .u8 (b).proto, .int .u32 (b).src, .int .u32 (b).dst, .slice X3 xn3 xc3, .slice Y3 yn3 yc3] 26) = W := ⟨_, rfl⟩); have V4 : Below u4.heap.size u4 w4 := (by rw [← hw4]; (repeat (first | with_reducible exact Below.refl _ _ | with_reducible refine below_drew ?_ | with_reducible refine below_drewN ?_ _ | with_reducible refine below_alloc ?_ (Nat.le_refl _) _ | with_reducible refine Below.setCell ?_ (by first | exact Nat.le_refl _ | (simp only []; omega)) _ | with_reducible assumption))); (obtain ⟨kI4, hkI4⟩ : ∃ k : Nat, u4.heap.size = k := ⟨_, rfl⟩); have I4 : Blk w4 kI4 #[.int .u8 (b).tos, .int .u16 (b).id, .bool (b).keep, .int .u8 (b).ttl, .int .u8 (b).proto, .int .u32 (b).src, .int .u32 (b).dst, .slice X3 xn3 xc3, .slice Y3 yn3 yc3] 26 := (by rw [← hw4]; exact blk_new u4 _ _ _ hkI4); have Ic4 := I4.cell; have T4 := below_then hB4 V4; have i4 := (xo3.bs).below V4; have j4 := (yo3.bs).below V4; have P4 := P3.below T4; have Pc4 := P4.cell; clear Pc3; have S4 := S3.below T4; have Sc4 := S4.cell; clear Sc3; have F4 := F3.below T4; have Fc4 := F4.cell; clear Fc3; have M4 := M3.below T4; have Mc4 := M4.cell; clear Mc3; have N4 := N3.below T4; have Nc4 := N4.cell; clear Nc3; have x4 := x3.below T4; have y4 := y3.below T4; have z4 := z3.below T4; have s4 := s3.below T4; have t4 := t3.below T4; have u4 := u3.below T4; have v4 := v3.below T4; have R4 := below_then R3 T4)
    | (go_at_call 21; ((with_reducible refine (cd w4 x4 z4).mono ?_); rintro e u5 ⟨⟨X4, xn4, xc4, Y4, yn4, yc4, rfl, xo4, yo4, hB5⟩⟩); (obtain ⟨w5, hw5⟩ : ∃ W, u5.alloc (.cells #[.int .u8 (b).tos, .int .u16 (b).id, .bool (b).keep, .int .u8 (b).ttl, .int .u8 (b).proto, .int .u32 (b).src, .int .u32 (b).dst, .slice X4 xn4 xc4, .slice Y4 yn4 yc4] 26) = W := ⟨_, rfl⟩); have V5 : Below u5.heap.size u5 w5 := (by rw [← hw5]; (repeat (first | with_reducible exact Below.refl _ _ | with_reducible refine below_drew ?_ | with_reducible refine below_drewN ?_ _ | with_reducible refine below_alloc ?_ (Nat.le_refl _) _ | with_reducible refine Below.setCell ?_ (by first | exact Nat.le_refl _ | (simp only []; omega)) _ | with_reducible assumption))); (obtain ⟨kJ5, hkJ5⟩ : ∃ k : Nat, u5.heap.size = k := ⟨_, rfl⟩); have J5 : Blk w5 kJ5 #[.int .u8 (b).tos, .int .u16 (b).id, .bool (b).keep, .int .u8 (b).ttl, .int .u8 (b).proto, .int .u32 (b).src, .int .u32 (b).dst, .slice X4 xn4 xc4, .slice Y4 yn4 yc4] 26 := (by rw [← hw5]; exact blk_new u5 _ _ _ hkJ5); have Jc5 := J5.cell; have T5 := below_then hB5 V5; have l5 := (xo4.bs).below V5; have m5 := (yo4.bs).below V5; have P5 := P4.below T5; have Pc5 := P5.cell; clear Pc4; have S5 := S4.below T5; have Sc5 := S5.cell; clear Sc4; have F5 := F4.below T5; have Fc5 := F5.cell; clear Fc4; have M5 := M4.below T5; have Mc5 := M5.cell; clear Mc4; have N5 := N4.below T5; have Nc5 := N5.cell; clear Nc4; have I5 := I4.below T5; have Ic5 := I5.cell; clear Ic4; have x5 := x4.below T5; have y5 := y4.below T5; have z5 := z4.below T5; have s5 := s4.below T5; have t5 := t4.below T5; have u5 := u4.below T5; have v5 := v4.below T5; have i5 := i4.below T5; have j5 := j4.below T5; have R5 := below_then R4 T5)
    | (go_at_call 16; ((with_reducible refine (live03_any w5).mono ?_); rintro e w6 ⟨rfl, hB6⟩); have P6 := P5.below hB6; have Pc6 := P6.cell; clear Pc5; have S6 := S5.below hB6; have Sc6 := S6.cell; clear Sc5; have F6 := F5.below hB6; have Fc6 := F6.cell; clear Fc5; have M6 := M5.below hB6; have Mc6 := M6.cell; clear Mc5; have N6 := N5.below hB6; have Nc6 := N6.cell; clear Nc5; have I6 := I5.below hB6; have Ic6 := I6.cell; clear Ic5; have J6 := J5.below hB6; have Jc6 := J6.cell; clear Jc5; have x6 := x5.below hB6; have y6 := y5.below hB6; have z6 := z5.below hB6; have s6 := s5.below hB6; have t6 := t5.below hB6; have u6 := u5.below hB6; have v6 := v5.below hB6; have i6 := i5.below hB6; have j6 := j5.below hB6; have l6 := l5.below hB6; have m6 := m5.below hB6; have R6 := below_then R5 hB6)
    | (go_at_call 22; ((with_reducible refine (cs w6 X1 xn1 xc1 Y1 yn1 yc1 X2 xn2 xc2 Y2 yn2 yc2 s6 t6 u6 v6).mono ?_); rintro e w7 ⟨rfl, hB7⟩); have P7 := P6.below hB7; have Pc7 := P7.cell; clear Pc6; have S7 := S6.below hB7; have Sc7 := S7.cell; clear Sc6; have F7 := F6.below hB7; have Fc7 := F7.cell; clear Fc6; have M7 := M6.below hB7; have Mc7 := M7.cell; clear Mc6; have N7 := N6.below hB7; have Nc7 := N7.cell; clear Nc6; have I7 := I6.below hB7; have Ic7 := I7.cell; clear Ic6; have J7 := J6.below hB7; have Jc7 := J7.cell; clear Jc6; have x7 := x6.below hB7; have y7 := y6.below hB7; have z7 := z6.below hB7; have s7 := s6.below hB7; have t7 := t6.below hB7; have u7 := u6.below hB7; have v7 := v6.below hB7; have i7 := i6.below hB7; have j7 := j6.below hB7; have l7 := l6.below hB7; have m7 := m6.below hB7; have R7 := below_then R6 hB7)
    | (go_at_call 22; ((with_reducible refine (ct w7 X3 xn3 xc3 Y3 yn3 yc3 X4 xn4 xc4 Y4 yn4 yc4 i7 j7 l7 m7).mono ?_); rintro e w8 ⟨rfl, hB8⟩); have P8 := P7.below hB8; have Pc8 := P8.cell; clear Pc7; have S8 := S7.below hB8; have Sc8 := S8.cell; clear Sc7; have F8 := F7.below hB8; have Fc8 := F8.cell; clear Fc7; have M8 := M7.below hB8; have Mc8 := M8.cell; clear Mc7; have N8 := N7.below hB8; have Nc8 := N8.cell; clear Nc7; have I8 := I7.below hB8; have Ic8 := I8.cell; clear Ic7; have J8 := J7.below hB8; have Jc8 := J8.cell; clear Jc7; have x8 := x7.below hB8; have y8 := y7.below hB8; have z8 := z7.below hB8; have s8 := s7.below hB8; have t8 := t7.below hB8; have u8 := u7.below hB8; have v8 := v7.below hB8; have i8 := i7.below hB8; have j8 := j7.below hB8; have l8 := l7.below hB8; have m8 := m7.below hB8; have R8 := below_then R7 hB8))
  go_ret
  exact ⟨rfl, R8⟩
end Go.Proofs.Ytjjhnjkmoogloaa

/- The Go law SegsBuilds: for every input the call returns true and each argument reads as it did. No other condition. -/
namespace Go.Proofs.Ytjjhnjkmoogloaa.segsBuilds
open Go.ChangeShapes Go.WideShapes Go.ChangeAt Go.RowKit
set_option linter.unusedVariables false
set_option maxRecDepth 100000 in
theorem lifted (os : Go.Os) (started : os.Started) (H : Type) (enc : TypeId × Value → H) :
    ReturnsInHanded {} Try.checked os 4 .any (Rows.segsBuildsSpec.pre6 enc Try.prog Try.f4 Rows.segsBuildsRow.domain false) (Rows.segsBuildsSpec.post enc Try.prog Try.f4 false true false false) := by
  refine returnsInHanded_of_change_sized (C := Try.checked) own_knob started (by kernel_rfl) Try.func4
    (ChangeSpec.witness6 (enc := enc) (C := Try.checked) false ⟨#[], #[.agg #[.int .u8 0, .int .u16 0, .bool false, .int .u8 0, .int .u8 0, .int .u32 0, .int .u32 0, .slice none 0 0, .slice none 0 0], .agg #[.int .u16 0, .int .u16 0, .int .u32 0, .int .u32 0, .int .u8 0, .int .u16 0, .int .u16 0, .slice none 0 0, .slice none 0 0], .agg #[.int .u16 0, .int .u16 0, .bool false, .slice none 0 0]], []⟩ 8 (by kernel_rfl) (by kernel_rfl) (by kernel_rfl) (by kernel_rfl)) ?_
  intro W base args ds gs before hval0 hW hcnd hsz0 hholds
  have hval : ∀ (j : Nat) t v, Try.f4.params[j]? = some t → args[j]? = some v → Value.okWide Try.prog W .any base t v := hval0
  have hW' := hW
  obtain ⟨p, q, hA0, hV, rfl, hfz, hnd⟩ := hW
  obtain ⟨rfl, rfl⟩ := trodVars_none hV
  have hA : DataW.TrodAll enc Try.prog W 0 (fun _ => true) true Try.f4.params.toList args.toList ds p := hA0
  have hsz : (DataW.weightsEach Try.prog [26, 29, 37] (ds ++ [])).all (· ≤ reachBytes) = true := hsz0
  simp only [List.append_nil] at hsz
  rw [Try.params4] at hA hval
  obtain ⟨v0, vs0, d0, ds0, p0, q0, hargs, rfl, rfl, h0, r0⟩ := trodAll_cons hA
  obtain ⟨v1, vs1, d1, ds1, p1, q1, rfl, rfl, rfl, h1, r1⟩ := trodAll_cons r0
  obtain ⟨v2, vs2, d2, ds2, p2, q2, rfl, rfl, rfl, h2, r2⟩ := trodAll_cons r1
  obtain ⟨rfl, rfl, rfl⟩ := trodAll_nil r2
  obtain rfl : args = #[v0, v1, v2] := by cases args; simp_all
  obtain ⟨pk0, A0, n0, c0, B0, m0, e0, rfl, ok0, ka0, kb0⟩ := open_pkt (hval 0 26 v0 rfl rfl) h0 (fun n hn => by simpa using List.all_eq_true.1 hsz n (DataW.weights_mem_each (j := 0) rfl rfl n hn))
  obtain ⟨sg1, OA1, on1, oc1, A1, n1, c1, rfl, ok1, KA1, ka1, hm1⟩ := open_seg (hval 1 29 v1 rfl rfl) h1 (fun n hn => by simpa using List.all_eq_true.1 hsz n (DataW.weights_mem_each (j := 1) rfl rfl n hn))
  obtain ⟨dg2, A2, n2, c2, rfl, ok2, ka2, hm2⟩ := open_dgm (hval 2 37 v2 rfl rfl) h2 (fun n hn => by simpa using List.all_eq_true.1 hsz n (DataW.weights_mem_each (j := 2) rfl rfl n hn))
  refine (segsBuilds_walk W pk0 ok0 A0 n0 c0 B0 m0 e0 ka0 kb0 sg1 ok1 OA1 on1 oc1 A1 n1 c1 KA1 ka1 hm1 dg2 ok2 A2 n2 c2 ka2 hm2).mono fun e W' ⟨he, bel⟩ => ?_
  subst he
  exact ⟨_, rfl, law_post Try.underlying4 rfl laid_out (by kernel_rfl) rfl rfl hW' bel⟩
theorem proved : Rows.SegsBuildsSaid :=
  OpenClaim.holds_of_wide 4 Try.f4 rfl rfl rfl rfl rfl rfl rfl ⟨rfl, rfl, rfl, rfl, rfl⟩ rfl rfl rfl rfl rfl (by kernel_rfl) Try.func4 (by kernel_rfl)
    (of_decide_eq_true (by kernel_rfl)) (by unfold Func.isWrapper; first | (rw [if_pos (by decide +kernel)]; kernel_rfl) | (rw [if_neg (by decide +kernel)]; exact ⟨rfl, rfl⟩))
    (fun os started H enc _ => lifted os started H enc)
end Go.Proofs.Ytjjhnjkmoogloaa.segsBuilds
#print axioms Go.Proofs.Ytjjhnjkmoogloaa.segsBuilds.proved

/- The Go law SegsFlips: for every input the call returns true and each argument reads as it did. No other condition. -/
import Derived.Test.YtjjhnjkmoogloaaK5
import Derived.Test.YtjjhnjkmoogloaaK4
import Derived.Test.YtjjhnjkmoogloaaK2
/- SegsBack, SegsFlips. -/
namespace Go.Proofs.Ytjjhnjkmoogloaa
open Go.RowKit
set_option linter.unusedVariables false
set_option linter.unusedSimpArgs false
set_option linter.unusedSimpArgs false
set_option maxHeartbeats 4000000
set_option maxRecDepth 100000

theorem sb_ok {p : Pkt} {s : Seg} (h : sbE p s = 0) : sbP p s = { p with proto := 6, dat := sS p s } := by unfold sbP; rw [if_pos h]
theorem segsBack_walk (w : World) (p : Pkt) (hp : p.Ok) (A1 : Option Addr) (n1 c1 : Nat) (A2 : Option Addr) (n2 c2 : Nat) (k1 : Bs w A1 n1 c1 p.opt) (k2 : Bs w A2 n2 c2 p.dat) (s : Seg) (hs : s.Ok) (OA : Option Addr) (on oc : Nat) (A3 : Option Addr) (n3 c3 : Nat) (K1 : Os w OA on oc s.opts) (k3 : Bs w A3 n3 c3 s.dat) (hn3 : n3 ≤ 140737488351232)
    (f : Dgm) (hf : f.Ok) (B1 : Option Addr) (m1 d1 : Nat) (j1 : Bs w B1 m1 d1 f.dat) (hm1 : m1 ≤ 140737488351232) :
    Calls Try.prog 10 #[(.agg #[.int .u8 (p).tos, .int .u16 (p).id, .bool (p).keep, .int .u8 (p).ttl, .int .u8 (p).proto, .int .u32 (p).src, .int .u32 (p).dst, .slice A1 n1 c1, .slice A2 n2 c2]), (.agg #[.int .u16 (s).src, .int .u16 (s).dst, .int .u32 (s).seq, .int .u32 (s).ack, .int .u8 (s).flags, .int .u16 (s).win, .int .u16 (s).urg, .slice OA on oc, .slice A3 n3 c3]), (.agg #[.int .u16 (f).src, .int .u16 (f).dst, .bool (f).bare, .slice B1 m1 d1])] w fun e w' => e = .returned (.bool true) ∧ Below w.heap.size w w' := by
  have ca := fun W k1 K1 k3 => sbuild_any p hp A1 n1 c1 A2 n2 c2 s hs OA on oc A3 n3 c3 W k1 K1 k3 hn3
  have cc := fun W k1 j1 => dbuild_any p hp A1 n1 c1 A2 n2 c2 f hf B1 m1 d1 W k1 j1 hm1
  have cst := fun W OA on oc DA dn dc PA pn pc EA en ec K1 k1 K2 k2 => rtsame_any s s OA on oc DA dn dc PA pn pc EA en ec W K1 k1 K2 k2
  have csd := fun W X n c Y m e k j => rdsame_any f f X n c Y m e W k j
  simp only [sameS_self, sameD_self] at cst csd
  have hcp : sbE p s = 0 → ∀ W X1 m1 d1 X2 m2 d2, Bs W X2 m2 d2 (sS p s) → Calls Try.prog 14 #[.agg #[.int .u8 p.tos, .int .u16 p.id, .bool p.keep, .int .u8 p.ttl, .int .u8 6, .int .u32 p.src, .int .u32 p.dst, .slice X1 m1 d1, .slice X2 m2 d2]] W (TcPost W s 0) := fun h W X1 m1 d1 X2 m2 d2 k => by
    have hb := sb_back hs h
    have e := sb_ok h
    have hl := k.len
    have hz := wiE_zero (sbE_zero h).2
    rw [sS_len] at hl
    have hh := tcp_any { p with proto := 6, dat := sS p s } ⟨hp.1, hp.2, hp.3, by show (0 : Int) ≤ 6 ∧ (6 : Int) ≤ 255; decide, hp.5, hp.6⟩ X1 m1 d1 X2 m2 d2 W k (by omega)
    rw [e] at hb
    rw [hb.1, hb.2.1] at hh
    exact hh
  have hcr : sbE p s = 0 → ∀ W X1 m1 d1 X2 m2 d2, Bs W X1 m1 d1 p.opt → Bs W X2 m2 d2 (sS p s) → Calls Try.prog 30 #[.agg #[.int .u8 p.tos, .int .u16 p.id, .bool p.keep, .int .u8 p.ttl, .int .u8 6, .int .u32 p.src, .int .u32 p.dst, .slice X1 m1 d1, .slice X2 m2 d2]] W fun e w' => e = .returned (.bool true) ∧ Below W.heap.size W w' := fun h W X1 m1 d1 X2 m2 d2 k j => by
    have hb := (sb_back hs h).2.2.1
    rw [sb_ok h] at hb
    have hh := rright_any { p with proto := 6, dat := sS p s } X1 m1 d1 X2 m2 d2 W k j
    rw [hb] at hh
    exact hh
  have hdp : dbE p f = 0 → ∀ W X1 m1 d1 X2 m2 d2, Bs W X2 m2 d2 (dS p f) → Calls Try.prog 27 #[.agg #[.int .u8 p.tos, .int .u16 p.id, .bool p.keep, .int .u8 p.ttl, .int .u8 17, .int .u32 p.src, .int .u32 p.dst, .slice X1 m1 d1, .slice X2 m2 d2]] W (DgPost W f 0) := fun h W X1 m1 d1 X2 m2 d2 k => by
    have hb := db_back hf h
    have e := (db_form h).1
    have hh := udp_any { p with proto := 17, dat := dS p f } ⟨hp.1, hp.2, hp.3, by show (0 : Int) ≤ 17 ∧ (17 : Int) ≤ 255; decide, hp.5, hp.6⟩ X1 m1 d1 X2 m2 d2 W k
    rw [e] at hb
    rw [hb.1, hb.2.1] at hh
    exact hh
  have hdr : dbE p f = 0 → ∀ W X1 m1 d1 X2 m2 d2, Bs W X1 m1 d1 p.opt → Bs W X2 m2 d2 (dS p f) → Calls Try.prog 30 #[.agg #[.int .u8 p.tos, .int .u16 p.id, .bool p.keep, .int .u8 p.ttl, .int .u8 17, .int .u32 p.src, .int .u32 p.dst, .slice X1 m1 d1, .slice X2 m2 d2]] W fun e w' => e = .returned (.bool true) ∧ Below W.heap.size W w' := fun h W X1 m1 d1 X2 m2 d2 k j => by
    have hb := (db_back hf h).2.2.1
    rw [(db_form h).1] at hb
    have hh := rright_any { p with proto := 17, dat := dS p f } X1 m1 d1 X2 m2 d2 W k j
    rw [hb] at hh
    exact hh
  have e1 : sbE p s = 0 → sbP p s = { p with proto := 6, dat := sS p s } := sb_ok
  have e2 : dbE p f = 0 → dbP p f = { p with proto := 17, dat := dS p f } := fun h => (db_form h).1
  obtain ⟨a, ha⟩ : ∃ a, sbP p s = a := ⟨_, rfl⟩
  obtain ⟨E, hE⟩ : ∃ E, sbE p s = E := ⟨_, rfl⟩
  obtain ⟨b, hb⟩ : ∃ b, dbP p f = b := ⟨_, rfl⟩
  obtain ⟨G, hG⟩ : ∃ G, dbE p f = G := ⟨_, rfl⟩
  obtain ⟨D, hD⟩ : ∃ D, sS p s = D := ⟨_, rfl⟩
  obtain ⟨F, hF⟩ : ∃ F, dS p f = F := ⟨_, rfl⟩
  simp only [ha, hE] at ca
  simp only [hb, hG] at cc
  rw [hE, hD] at hcp hcr
  rw [hE, ha, hD] at e1
  rw [hG, hF] at hdp hdr
  rw [hG, hb, hF] at e2
  have ok6 := fun o h => (K1.ok o h)
  clear ha hE hb hG hD hF
  obtain ⟨k, hk⟩ : ∃ k : Nat, w.heap.size = k := ⟨_, rfl⟩
  obtain ⟨w1, hw1⟩ : ∃ W, (((w.alloc (.cells #[.int .u8 (p).tos, .int .u16 (p).id, .bool (p).keep, .int .u8 (p).ttl, .int .u8 (p).proto, .int .u32 (p).src, .int .u32 (p).dst, .slice A1 n1 c1, .slice A2 n2 c2] 26)).alloc (.cells #[.int .u16 (s).src, .int .u16 (s).dst, .int .u32 (s).seq, .int .u32 (s).ack, .int .u8 (s).flags, .int .u16 (s).win, .int .u16 (s).urg, .slice OA on oc, .slice A3 n3 c3] 29)).alloc (.cells #[.int .u16 (f).src, .int .u16 (f).dst, .bool (f).bare, .slice B1 m1 d1] 37)) = W := ⟨_, rfl⟩
  have P1 : Blk w1 k #[.int .u8 (p).tos, .int .u16 (p).id, .bool (p).keep, .int .u8 (p).ttl, .int .u8 (p).proto, .int .u32 (p).src, .int .u32 (p).dst, .slice A1 n1 c1, .slice A2 n2 c2] 26 := by rw [← hw1]; exact (((blk_new _ _ _ k (by simp [hk])).alloc _).alloc _)
  have S1 : Blk w1 (k + 1) #[.int .u16 (s).src, .int .u16 (s).dst, .int .u32 (s).seq, .int .u32 (s).ack, .int .u8 (s).flags, .int .u16 (s).win, .int .u16 (s).urg, .slice OA on oc, .slice A3 n3 c3] 29 := by rw [← hw1]; exact ((blk_new _ _ _ (k + 1) (by simp [hk])).alloc _)
  have F1 : Blk w1 (k + 1 + 1) #[.int .u16 (f).src, .int .u16 (f).dst, .bool (f).bare, .slice B1 m1 d1] 37 := by rw [← hw1]; exact (blk_new _ _ _ (k + 1 + 1) (by simp [hk]))
  have R1 : Below w.heap.size w w1 := by rw [← hw1]; (repeat (first | with_reducible exact Below.refl _ _ | with_reducible refine below_drew ?_ | with_reducible refine below_drewN ?_ _ | with_reducible refine below_alloc ?_ (Nat.le_refl _) _ | with_reducible refine Below.setCell ?_ (by first | exact Nat.le_refl _ | (simp only []; omega)) _ | with_reducible assumption))
  have Pc1 := P1.cell
  have Sc1 := S1.cell
  have Fc1 := F1.cell
  have Pl1 := P1.lt
  have Sl1 := S1.lt
  have Fl1 := F1.lt
  have x1 := (k1).below R1
  have y1 := (k3).below R1
  have z1 := (j1).below R1
  have KK1 := K1.below R1
  clear k1 k3 j1 k2 K1
  by_cases hE : E = 0
  · subst hE
    obtain rfl := e1 rfl
    have cp := hcp rfl
    have cr := hcr rfl
    by_cases hG : G = 0
    · subst hG
      obtain rfl := e2 rfl
      have dp := hdp rfl
      have dr := hdr rfl
      clear e1 e2 hcp hcr hdp hdr
      go_enter Try.func10, Try.ntmps10
      go_wp2_with (first
        | (go_at_call 18; ((with_reducible refine (ca w1 x1 KK1 y1).mono ?_); rintro e u2 ⟨⟨X1, xn1, xc1, Y1, yn1, yc1, rfl, xo1, yo1, hB2⟩⟩); (obtain ⟨w2, hw2⟩ : ∃ W, u2.alloc (.cells #[.int .u8 p.tos, .int .u16 p.id, .bool p.keep, .int .u8 p.ttl, .int .u8 6, .int .u32 p.src, .int .u32 p.dst, .slice X1 xn1 xc1, .slice Y1 yn1 yc1] 26) = W := ⟨_, rfl⟩); have V2 : Below u2.heap.size u2 w2 := (by rw [← hw2]; (repeat (first | with_reducible exact Below.refl _ _ | with_reducible refine below_drew ?_ | with_reducible refine below_drewN ?_ _ | with_reducible refine below_alloc ?_ (Nat.le_refl _) _ | with_reducible refine Below.setCell ?_ (by first | exact Nat.le_refl _ | (simp only []; omega)) _ | with_reducible assumption))); (obtain ⟨kM2, hkM2⟩ : ∃ k : Nat, u2.heap.size = k := ⟨_, rfl⟩); have M2 : Blk w2 kM2 #[.int .u8 p.tos, .int .u16 p.id, .bool p.keep, .int .u8 p.ttl, .int .u8 6, .int .u32 p.src, .int .u32 p.dst, .slice X1 xn1 xc1, .slice Y1 yn1 yc1] 26 := (by rw [← hw2]; exact blk_new u2 _ _ _ hkM2); have Mc2 := M2.cell; have T2 := below_then hB2 V2; have s2 := (xo1.bs).below V2; have t2 := (yo1.bs).below V2; have P2 := P1.below T2; have Pc2 := P2.cell; clear Pc1; have S2 := S1.below T2; have Sc2 := S2.cell; clear Sc1; have F2 := F1.below T2; have Fc2 := F2.cell; clear Fc1; have x2 := x1.below T2; have y2 := y1.below T2; have z2 := z1.below T2; have R2 := below_then R1 T2; have KK2 := KK1.below T2)
        | (go_at_call 20; ((with_reducible refine (cc w2 x2 z2).mono ?_); rintro e u3 ⟨⟨X3, xn3, xc3, Y3, yn3, yc3, rfl, xo3, yo3, hB3⟩⟩); (obtain ⟨w3, hw3⟩ : ∃ W, u3.alloc (.cells #[.int .u8 p.tos, .int .u16 p.id, .bool p.keep, .int .u8 p.ttl, .int .u8 17, .int .u32 p.src, .int .u32 p.dst, .slice X3 xn3 xc3, .slice Y3 yn3 yc3] 26) = W := ⟨_, rfl⟩); have V3 : Below u3.heap.size u3 w3 := (by rw [← hw3]; (repeat (first | with_reducible exact Below.refl _ _ | with_reducible refine below_drew ?_ | with_reducible refine below_drewN ?_ _ | with_reducible refine below_alloc ?_ (Nat.le_refl _) _ | with_reducible refine Below.setCell ?_ (by first | exact Nat.le_refl _ | (simp only []; omega)) _ | with_reducible assumption))); (obtain ⟨kI3, hkI3⟩ : ∃ k : Nat, u3.heap.size = k := ⟨_, rfl⟩); have I3 : Blk w3 kI3 #[.int .u8 p.tos, .int .u16 p.id, .bool p.keep, .int .u8 p.ttl, .int .u8 17, .int .u32 p.src, .int .u32 p.dst, .slice X3 xn3 xc3, .slice Y3 yn3 yc3] 26 := (by rw [← hw3]; exact blk_new u3 _ _ _ hkI3); have Ic3 := I3.cell; have T3 := below_then hB3 V3; have i3 := (xo3.bs).below V3; have j3 := (yo3.bs).below V3; have P3 := P2.below T3; have Pc3 := P3.cell; clear Pc2; have S3 := S2.below T3; have Sc3 := S3.cell; clear Sc2; have F3 := F2.below T3; have Fc3 := F3.cell; clear Fc2; have M3 := M2.below T3; have Mc3 := M3.cell; clear Mc2; have x3 := x2.below T3; have y3 := y2.below T3; have z3 := z2.below T3; have s3 := s2.below T3; have t3 := t2.below T3; have R3 := below_then R2 T3; have KK3 := KK2.below T3)
        | (go_at_call 14; ((with_reducible refine (cp w3 X1 xn1 xc1 Y1 yn1 yc1 t3).mono ?_); rintro e u4 ⟨⟨OB, pn, pc, DA, dn, dc, rfl, OO, h40, DD, hB4⟩⟩); (obtain ⟨w4, hw4⟩ : ∃ W, u4.alloc (.cells #[.int .u16 (s).src, .int .u16 (s).dst, .int .u32 (s).seq, .int .u32 (s).ack, .int .u8 (s).flags, .int .u16 (s).win, .int .u16 (s).urg, .slice OB pn pc, .slice DA dn dc] 29) = W := ⟨_, rfl⟩); have V4 : Below u4.heap.size u4 w4 := (by rw [← hw4]; (repeat (first | with_reducible exact Below.refl _ _ | with_reducible refine below_drew ?_ | with_reducible refine below_drewN ?_ _ | with_reducible refine below_alloc ?_ (Nat.le_refl _) _ | with_reducible refine Below.setCell ?_ (by first | exact Nat.le_refl _ | (simp only []; omega)) _ | with_reducible assumption))); (obtain ⟨kN4, hkN4⟩ : ∃ k : Nat, u4.heap.size = k := ⟨_, rfl⟩); have N4 : Blk w4 kN4 #[.int .u16 (s).src, .int .u16 (s).dst, .int .u32 (s).seq, .int .u32 (s).ack, .int .u8 (s).flags, .int .u16 (s).win, .int .u16 (s).urg, .slice OB pn pc, .slice DA dn dc] 29 := (by rw [← hw4]; exact blk_new u4 _ _ _ hkN4); have Nc4 := N4.cell; have T4 := below_then hB4 V4; have d4 := (DD.bs).below V4; have P4 := P3.below T4; have Pc4 := P4.cell; clear Pc3; have S4 := S3.below T4; have Sc4 := S4.cell; clear Sc3; have F4 := F3.below T4; have Fc4 := F4.cell; clear Fc3; have M4 := M3.below T4; have Mc4 := M4.cell; clear Mc3; have I4 := I3.below T4; have Ic4 := I4.cell; clear Ic3; have x4 := x3.below T4; have y4 := y3.below T4; have z4 := z3.below T4; have s4 := s3.below T4; have t4 := t3.below T4; have i4 := i3.below T4; have j4 := j3.below T4; have R4 := below_then R3 T4; have KP4 := (OO.os (by omega) ok6).below V4; have KK4 := KK3.below T4)
        | (go_at_call 17; ((with_reducible refine (cst w4 OB pn pc DA dn dc OA on oc A3 n3 c3 KP4 d4 KK4 y4).mono ?_); rintro e w5 ⟨rfl, hB5⟩); have P5 := P4.below hB5; have Pc5 := P5.cell; clear Pc4; have S5 := S4.below hB5; have Sc5 := S5.cell; clear Sc4; have F5 := F4.below hB5; have Fc5 := F5.cell; clear Fc4; have M5 := M4.below hB5; have Mc5 := M5.cell; clear Mc4; have I5 := I4.below hB5; have Ic5 := I5.cell; clear Ic4; have N5 := N4.below hB5; have Nc5 := N5.cell; clear Nc4; have x5 := x4.below hB5; have y5 := y4.below hB5; have z5 := z4.below hB5; have s5 := s4.below hB5; have t5 := t4.below hB5; have i5 := i4.below hB5; have j5 := j4.below hB5; have d5 := d4.below hB5; have R5 := below_then R4 hB5)
        | (go_at_call 30; ((with_reducible refine (cr w5 X1 xn1 xc1 Y1 yn1 yc1 s5 t5).mono ?_); rintro e w6 ⟨rfl, hB6⟩); have P6 := P5.below hB6; have Pc6 := P6.cell; clear Pc5; have S6 := S5.below hB6; have Sc6 := S6.cell; clear Sc5; have F6 := F5.below hB6; have Fc6 := F6.cell; clear Fc5; have M6 := M5.below hB6; have Mc6 := M6.cell; clear Mc5; have I6 := I5.below hB6; have Ic6 := I6.cell; clear Ic5; have N6 := N5.below hB6; have Nc6 := N6.cell; clear Nc5; have x6 := x5.below hB6; have y6 := y5.below hB6; have z6 := z5.below hB6; have s6 := s5.below hB6; have t6 := t5.below hB6; have i6 := i5.below hB6; have j6 := j5.below hB6; have d6 := d5.below hB6; have R6 := below_then R5 hB6)
        | (go_at_call 27; ((with_reducible refine (dp w6 X3 xn3 xc3 Y3 yn3 yc3 j6).mono ?_); rintro e u7 ⟨⟨EA, en, ec, rfl, EE, hB7⟩⟩); (obtain ⟨w7, hw7⟩ : ∃ W, u7.alloc (.cells #[.int .u16 (f).src, .int .u16 (f).dst, .bool (f).bare, .slice EA en ec] 37) = W := ⟨_, rfl⟩); have V7 : Below u7.heap.size u7 w7 := (by rw [← hw7]; (repeat (first | with_reducible exact Below.refl _ _ | with_reducible refine below_drew ?_ | with_reducible refine below_drewN ?_ _ | with_reducible refine below_alloc ?_ (Nat.le_refl _) _ | with_reducible refine Below.setCell ?_ (by first | exact Nat.le_refl _ | (simp only []; omega)) _ | with_reducible assumption))); (obtain ⟨kL7, hkL7⟩ : ∃ k : Nat, u7.heap.size = k := ⟨_, rfl⟩); have L7 : Blk w7 kL7 #[.int .u16 (f).src, .int .u16 (f).dst, .bool (f).bare, .slice EA en ec] 37 := (by rw [← hw7]; exact blk_new u7 _ _ _ hkL7); have Lc7 := L7.cell; have T7 := below_then hB7 V7; have e7 := (EE.bs).below V7; have P7 := P6.below T7; have Pc7 := P7.cell; clear Pc6; have S7 := S6.below T7; have Sc7 := S7.cell; clear Sc6; have F7 := F6.below T7; have Fc7 := F7.cell; clear Fc6; have M7 := M6.below T7; have Mc7 := M7.cell; clear Mc6; have I7 := I6.below T7; have Ic7 := I7.cell; clear Ic6; have N7 := N6.below T7; have Nc7 := N7.cell; clear Nc6; have x7 := x6.below T7; have y7 := y6.below T7; have z7 := z6.below T7; have s7 := s6.below T7; have t7 := t6.below T7; have i7 := i6.below T7; have j7 := j6.below T7; have d7 := d6.below T7; have R7 := below_then R6 T7)
        | (go_at_call 29; ((with_reducible refine (csd w7 EA en ec B1 m1 d1 e7 z7).mono ?_); rintro e w8 ⟨rfl, hB8⟩); have P8 := P7.below hB8; have Pc8 := P8.cell; clear Pc7; have S8 := S7.below hB8; have Sc8 := S8.cell; clear Sc7; have F8 := F7.below hB8; have Fc8 := F8.cell; clear Fc7; have M8 := M7.below hB8; have Mc8 := M8.cell; clear Mc7; have I8 := I7.below hB8; have Ic8 := I8.cell; clear Ic7; have N8 := N7.below hB8; have Nc8 := N8.cell; clear Nc7; have L8 := L7.below hB8; have Lc8 := L8.cell; clear Lc7; have x8 := x7.below hB8; have y8 := y7.below hB8; have z8 := z7.below hB8; have s8 := s7.below hB8; have t8 := t7.below hB8; have i8 := i7.below hB8; have j8 := j7.below hB8; have d8 := d7.below hB8; have e8 := e7.below hB8; have R8 := below_then R7 hB8)
        | (go_at_call 30; ((with_reducible refine (dr w8 X3 xn3 xc3 Y3 yn3 yc3 i8 j8).mono ?_); rintro e w9 ⟨rfl, hB9⟩); have P9 := P8.below hB9; have Pc9 := P9.cell; clear Pc8; have S9 := S8.below hB9; have Sc9 := S9.cell; clear Sc8; have F9 := F8.below hB9; have Fc9 := F9.cell; clear Fc8; have M9 := M8.below hB9; have Mc9 := M9.cell; clear Mc8; have I9 := I8.below hB9; have Ic9 := I9.cell; clear Ic8; have N9 := N8.below hB9; have Nc9 := N9.cell; clear Nc8; have L9 := L8.below hB9; have Lc9 := L9.cell; clear Lc8; have x9 := x8.below hB9; have y9 := y8.below hB9; have z9 := z8.below hB9; have s9 := s8.below hB9; have t9 := t8.below hB9; have i9 := i8.below hB9; have j9 := j8.below hB9; have d9 := d8.below hB9; have e9 := e8.below hB9; have R9 := below_then R8 hB9)
        | (go_at_call 16; ((with_reducible refine (live03_any w9).mono ?_); rintro e w10 ⟨rfl, hB10⟩); have P10 := P9.below hB10; have Pc10 := P10.cell; clear Pc9; have S10 := S9.below hB10; have Sc10 := S10.cell; clear Sc9; have F10 := F9.below hB10; have Fc10 := F10.cell; clear Fc9; have M10 := M9.below hB10; have Mc10 := M10.cell; clear Mc9; have I10 := I9.below hB10; have Ic10 := I10.cell; clear Ic9; have N10 := N9.below hB10; have Nc10 := N10.cell; clear Nc9; have L10 := L9.below hB10; have Lc10 := L10.cell; clear Lc9; have x10 := x9.below hB10; have y10 := y9.below hB10; have z10 := z9.below hB10; have s10 := s9.below hB10; have t10 := t9.below hB10; have i10 := i9.below hB10; have j10 := j9.below hB10; have d10 := d9.below hB10; have e10 := e9.below hB10; have R10 := below_then R9 hB10))
      go_ret
      exact ⟨rfl, R10⟩

    · have hG' : (G == 0) = false := by simpa using hG
      clear e1 e2 hcp hcr hdp hdr hG
      go_enter Try.func10, Try.ntmps10
      go_wp2_with (first
        | (go_at_call 18; ((with_reducible refine (ca w1 x1 KK1 y1).mono ?_); rintro e u2 ⟨⟨X1, xn1, xc1, Y1, yn1, yc1, rfl, xo1, yo1, hB2⟩⟩); (obtain ⟨w2, hw2⟩ : ∃ W, u2.alloc (.cells #[.int .u8 p.tos, .int .u16 p.id, .bool p.keep, .int .u8 p.ttl, .int .u8 6, .int .u32 p.src, .int .u32 p.dst, .slice X1 xn1 xc1, .slice Y1 yn1 yc1] 26) = W := ⟨_, rfl⟩); have V2 : Below u2.heap.size u2 w2 := (by rw [← hw2]; (repeat (first | with_reducible exact Below.refl _ _ | with_reducible refine below_drew ?_ | with_reducible refine below_drewN ?_ _ | with_reducible refine below_alloc ?_ (Nat.le_refl _) _ | with_reducible refine Below.setCell ?_ (by first | exact Nat.le_refl _ | (simp only []; omega)) _ | with_reducible assumption))); (obtain ⟨kM2, hkM2⟩ : ∃ k : Nat, u2.heap.size = k := ⟨_, rfl⟩); have M2 : Blk w2 kM2 #[.int .u8 p.tos, .int .u16 p.id, .bool p.keep, .int .u8 p.ttl, .int .u8 6, .int .u32 p.src, .int .u32 p.dst, .slice X1 xn1 xc1, .slice Y1 yn1 yc1] 26 := (by rw [← hw2]; exact blk_new u2 _ _ _ hkM2); have Mc2 := M2.cell; have T2 := below_then hB2 V2; have s2 := (xo1.bs).below V2; have t2 := (yo1.bs).below V2; have P2 := P1.below T2; have Pc2 := P2.cell; clear Pc1; have S2 := S1.below T2; have Sc2 := S2.cell; clear Sc1; have F2 := F1.below T2; have Fc2 := F2.cell; clear Fc1; have x2 := x1.below T2; have y2 := y1.below T2; have z2 := z1.below T2; have R2 := below_then R1 T2; have KK2 := KK1.below T2)
        | (go_at_call 20; ((with_reducible refine (cc w2 x2 z2).mono ?_); rintro e u3 ⟨⟨X3, xn3, xc3, Y3, yn3, yc3, rfl, xo3, yo3, hB3⟩⟩); (obtain ⟨w3, hw3⟩ : ∃ W, u3.alloc (.cells #[.int .u8 (b).tos, .int .u16 (b).id, .bool (b).keep, .int .u8 (b).ttl, .int .u8 (b).proto, .int .u32 (b).src, .int .u32 (b).dst, .slice X3 xn3 xc3, .slice Y3 yn3 yc3] 26) = W := ⟨_, rfl⟩); have V3 : Below u3.heap.size u3 w3 := (by rw [← hw3]; (repeat (first | with_reducible exact Below.refl _ _ | with_reducible refine below_drew ?_ | with_reducible refine below_drewN ?_ _ | with_reducible refine below_alloc ?_ (Nat.le_refl _) _ | with_reducible refine Below.setCell ?_ (by first | exact Nat.le_refl _ | (simp only []; omega)) _ | with_reducible assumption))); (obtain ⟨kI3, hkI3⟩ : ∃ k : Nat, u3.heap.size = k := ⟨_, rfl⟩); have I3 : Blk w3 kI3 #[.int .u8 (b).tos, .int .u16 (b).id, .bool (b).keep, .int .u8 (b).ttl, .int .u8 (b).proto, .int .u32 (b).src, .int .u32 (b).dst, .slice X3 xn3 xc3, .slice Y3 yn3 yc3] 26 := (by rw [← hw3]; exact blk_new u3 _ _ _ hkI3); have Ic3 := I3.cell; have T3 := below_then hB3 V3; have P3 := P2.below T3; have Pc3 := P3.cell; clear Pc2; have S3 := S2.below T3; have Sc3 := S3.cell; clear Sc2; have F3 := F2.below T3; have Fc3 := F3.cell; clear Fc2; have M3 := M2.below T3; have Mc3 := M3.cell; clear Mc2; have x3 := x2.below T3; have y3 := y2.below T3; have z3 := z2.below T3; have s3 := s2.below T3; have t3 := t2.below T3; have R3 := below_then R2 T3; have KK3 := KK2.below T3)
        | (go_at_call 14; ((with_reducible refine (cp w3 X1 xn1 xc1 Y1 yn1 yc1 t3).mono ?_); rintro e u4 ⟨⟨OB, pn, pc, DA, dn, dc, rfl, OO, h40, DD, hB4⟩⟩); (obtain ⟨w4, hw4⟩ : ∃ W, u4.alloc (.cells #[.int .u16 (s).src, .int .u16 (s).dst, .int .u32 (s).seq, .int .u32 (s).ack, .int .u8 (s).flags, .int .u16 (s).win, .int .u16 (s).urg, .slice OB pn pc, .slice DA dn dc] 29) = W := ⟨_, rfl⟩); have V4 : Below u4.heap.size u4 w4 := (by rw [← hw4]; (repeat (first | with_reducible exact Below.refl _ _ | with_reducible refine below_drew ?_ | with_reducible refine below_drewN ?_ _ | with_reducible refine below_alloc ?_ (Nat.le_refl _) _ | with_reducible refine Below.setCell ?_ (by first | exact Nat.le_refl _ | (simp only []; omega)) _ | with_reducible assumption))); (obtain ⟨kN4, hkN4⟩ : ∃ k : Nat, u4.heap.size = k := ⟨_, rfl⟩); have N4 : Blk w4 kN4 #[.int .u16 (s).src, .int .u16 (s).dst, .int .u32 (s).seq, .int .u32 (s).ack, .int .u8 (s).flags, .int .u16 (s).win, .int .u16 (s).urg, .slice OB pn pc, .slice DA dn dc] 29 := (by rw [← hw4]; exact blk_new u4 _ _ _ hkN4); have Nc4 := N4.cell; have T4 := below_then hB4 V4; have d4 := (DD.bs).below V4; have P4 := P3.below T4; have Pc4 := P4.cell; clear Pc3; have S4 := S3.below T4; have Sc4 := S4.cell; clear Sc3; have F4 := F3.below T4; have Fc4 := F4.cell; clear Fc3; have M4 := M3.below T4; have Mc4 := M4.cell; clear Mc3; have I4 := I3.below T4; have Ic4 := I4.cell; clear Ic3; have x4 := x3.below T4; have y4 := y3.below T4; have z4 := z3.below T4; have s4 := s3.below T4; have t4 := t3.below T4; have R4 := below_then R3 T4; have KP4 := (OO.os (by omega) ok6).below V4; have KK4 := KK3.below T4)
        | (go_at_call 17; ((with_reducible refine (cst w4 OB pn pc DA dn dc OA on oc A3 n3 c3 KP4 d4 KK4 y4).mono ?_); rintro e w5 ⟨rfl, hB5⟩); have P5 := P4.below hB5; have Pc5 := P5.cell; clear Pc4; have S5 := S4.below hB5; have Sc5 := S5.cell; clear Sc4; have F5 := F4.below hB5; have Fc5 := F5.cell; clear Fc4; have M5 := M4.below hB5; have Mc5 := M5.cell; clear Mc4; have I5 := I4.below hB5; have Ic5 := I5.cell; clear Ic4; have N5 := N4.below hB5; have Nc5 := N5.cell; clear Nc4; have x5 := x4.below hB5; have y5 := y4.below hB5; have z5 := z4.below hB5; have s5 := s4.below hB5; have t5 := t4.below hB5; have d5 := d4.below hB5; have R5 := below_then R4 hB5)
        | (go_at_call 30; ((with_reducible refine (cr w5 X1 xn1 xc1 Y1 yn1 yc1 s5 t5).mono ?_); rintro e w6 ⟨rfl, hB6⟩); have P6 := P5.below hB6; have Pc6 := P6.cell; clear Pc5; have S6 := S5.below hB6; have Sc6 := S6.cell; clear Sc5; have F6 := F5.below hB6; have Fc6 := F6.cell; clear Fc5; have M6 := M5.below hB6; have Mc6 := M6.cell; clear Mc5; have I6 := I5.below hB6; have Ic6 := I6.cell; clear Ic5; have N6 := N5.below hB6; have Nc6 := N6.cell; clear Nc5; have x6 := x5.below hB6; have y6 := y5.below hB6; have z6 := z5.below hB6; have s6 := s5.below hB6; have t6 := t5.below hB6; have d6 := d5.below hB6; have R6 := below_then R5 hB6)
        | (go_at_call 16; ((with_reducible refine (live03_any w6).mono ?_); rintro e w7 ⟨rfl, hB7⟩); have P7 := P6.below hB7; have Pc7 := P7.cell; clear Pc6; have S7 := S6.below hB7; have Sc7 := S7.cell; clear Sc6; have F7 := F6.below hB7; have Fc7 := F7.cell; clear Fc6; have M7 := M6.below hB7; have Mc7 := M7.cell; clear Mc6; have I7 := I6.below hB7; have Ic7 := I7.cell; clear Ic6; have N7 := N6.below hB7; have Nc7 := N7.cell; clear Nc6; have x7 := x6.below hB7; have y7 := y6.below hB7; have z7 := z6.below hB7; have s7 := s6.below hB7; have t7 := t6.below hB7; have d7 := d6.below hB7; have R7 := below_then R6 hB7))
      go_ret
      exact ⟨rfl, R7⟩

  · have hE' : (E == 0) = false := by simpa using hE
    by_cases hG : G = 0
    · subst hG
      obtain rfl := e2 rfl
      have dp := hdp rfl
      have dr := hdr rfl
      clear e1 e2 hcp hcr hdp hdr hE
      go_enter Try.func10, Try.ntmps10
      go_wp2_with (first
        | (go_at_call 18; ((with_reducible refine (ca w1 x1 KK1 y1).mono ?_); rintro e u2 ⟨⟨X1, xn1, xc1, Y1, yn1, yc1, rfl, xo1, yo1, hB2⟩⟩); (obtain ⟨w2, hw2⟩ : ∃ W, u2.alloc (.cells #[.int .u8 (a).tos, .int .u16 (a).id, .bool (a).keep, .int .u8 (a).ttl, .int .u8 (a).proto, .int .u32 (a).src, .int .u32 (a).dst, .slice X1 xn1 xc1, .slice Y1 yn1 yc1] 26) = W := ⟨_, rfl⟩); have V2 : Below u2.heap.size u2 w2 := (by rw [← hw2]; (repeat (first | with_reducible exact Below.refl _ _ | with_reducible refine below_drew ?_ | with_reducible refine below_drewN ?_ _ | with_reducible refine below_alloc ?_ (Nat.le_refl _) _ | with_reducible refine Below.setCell ?_ (by first | exact Nat.le_refl _ | (simp only []; omega)) _ | with_reducible assumption))); (obtain ⟨kM2, hkM2⟩ : ∃ k : Nat, u2.heap.size = k := ⟨_, rfl⟩); have M2 : Blk w2 kM2 #[.int .u8 (a).tos, .int .u16 (a).id, .bool (a).keep, .int .u8 (a).ttl, .int .u8 (a).proto, .int .u32 (a).src, .int .u32 (a).dst, .slice X1 xn1 xc1, .slice Y1 yn1 yc1] 26 := (by rw [← hw2]; exact blk_new u2 _ _ _ hkM2); have Mc2 := M2.cell; have T2 := below_then hB2 V2; have P2 := P1.below T2; have Pc2 := P2.cell; clear Pc1; have S2 := S1.below T2; have Sc2 := S2.cell; clear Sc1; have F2 := F1.below T2; have Fc2 := F2.cell; clear Fc1; have x2 := x1.below T2; have y2 := y1.below T2; have z2 := z1.below T2; have R2 := below_then R1 T2)
        | (go_at_call 20; ((with_reducible refine (cc w2 x2 z2).mono ?_); rintro e u3 ⟨⟨X3, xn3, xc3, Y3, yn3, yc3, rfl, xo3, yo3, hB3⟩⟩); (obtain ⟨w3, hw3⟩ : ∃ W, u3.alloc (.cells #[.int .u8 p.tos, .int .u16 p.id, .bool p.keep, .int .u8 p.ttl, .int .u8 17, .int .u32 p.src, .int .u32 p.dst, .slice X3 xn3 xc3, .slice Y3 yn3 yc3] 26) = W := ⟨_, rfl⟩); have V3 : Below u3.heap.size u3 w3 := (by rw [← hw3]; (repeat (first | with_reducible exact Below.refl _ _ | with_reducible refine below_drew ?_ | with_reducible refine below_drewN ?_ _ | with_reducible refine below_alloc ?_ (Nat.le_refl _) _ | with_reducible refine Below.setCell ?_ (by first | exact Nat.le_refl _ | (simp only []; omega)) _ | with_reducible assumption))); (obtain ⟨kI3, hkI3⟩ : ∃ k : Nat, u3.heap.size = k := ⟨_, rfl⟩); have I3 : Blk w3 kI3 #[.int .u8 p.tos, .int .u16 p.id, .bool p.keep, .int .u8 p.ttl, .int .u8 17, .int .u32 p.src, .int .u32 p.dst, .slice X3 xn3 xc3, .slice Y3 yn3 yc3] 26 := (by rw [← hw3]; exact blk_new u3 _ _ _ hkI3); have Ic3 := I3.cell; have T3 := below_then hB3 V3; have i3 := (xo3.bs).below V3; have j3 := (yo3.bs).below V3; have P3 := P2.below T3; have Pc3 := P3.cell; clear Pc2; have S3 := S2.below T3; have Sc3 := S3.cell; clear Sc2; have F3 := F2.below T3; have Fc3 := F3.cell; clear Fc2; have M3 := M2.below T3; have Mc3 := M3.cell; clear Mc2; have x3 := x2.below T3; have y3 := y2.below T3; have z3 := z2.below T3; have R3 := below_then R2 T3)
        | (go_at_call 27; ((with_reducible refine (dp w3 X3 xn3 xc3 Y3 yn3 yc3 j3).mono ?_); rintro e u4 ⟨⟨EA, en, ec, rfl, EE, hB4⟩⟩); (obtain ⟨w4, hw4⟩ : ∃ W, u4.alloc (.cells #[.int .u16 (f).src, .int .u16 (f).dst, .bool (f).bare, .slice EA en ec] 37) = W := ⟨_, rfl⟩); have V4 : Below u4.heap.size u4 w4 := (by rw [← hw4]; (repeat (first | with_reducible exact Below.refl _ _ | with_reducible refine below_drew ?_ | with_reducible refine below_drewN ?_ _ | with_reducible refine below_alloc ?_ (Nat.le_refl _) _ | with_reducible refine Below.setCell ?_ (by first | exact Nat.le_refl _ | (simp only []; omega)) _ | with_reducible assumption))); (obtain ⟨kL4, hkL4⟩ : ∃ k : Nat, u4.heap.size = k := ⟨_, rfl⟩); have L4 : Blk w4 kL4 #[.int .u16 (f).src, .int .u16 (f).dst, .bool (f).bare, .slice EA en ec] 37 := (by rw [← hw4]; exact blk_new u4 _ _ _ hkL4); have Lc4 := L4.cell; have T4 := below_then hB4 V4; have e4 := (EE.bs).below V4; have P4 := P3.below T4; have Pc4 := P4.cell; clear Pc3; have S4 := S3.below T4; have Sc4 := S4.cell; clear Sc3; have F4 := F3.below T4; have Fc4 := F4.cell; clear Fc3; have M4 := M3.below T4; have Mc4 := M4.cell; clear Mc3; have I4 := I3.below T4; have Ic4 := I4.cell; clear Ic3; have x4 := x3.below T4; have y4 := y3.below T4; have z4 := z3.below T4; have i4 := i3.below T4; have j4 := j3.below T4; have R4 := below_then R3 T4)
        | (go_at_call 29; ((with_reducible refine (csd w4 EA en ec B1 m1 d1 e4 z4).mono ?_); rintro e w5 ⟨rfl, hB5⟩); have P5 := P4.below hB5; have Pc5 := P5.cell; clear Pc4; have S5 := S4.below hB5; have Sc5 := S5.cell; clear Sc4; have F5 := F4.below hB5; have Fc5 := F5.cell; clear Fc4; have M5 := M4.below hB5; have Mc5 := M5.cell; clear Mc4; have I5 := I4.below hB5; have Ic5 := I5.cell; clear Ic4; have L5 := L4.below hB5; have Lc5 := L5.cell; clear Lc4; have x5 := x4.below hB5; have y5 := y4.below hB5; have z5 := z4.below hB5; have i5 := i4.below hB5; have j5 := j4.below hB5; have e5 := e4.below hB5; have R5 := below_then R4 hB5)
        | (go_at_call 30; ((with_reducible refine (dr w5 X3 xn3 xc3 Y3 yn3 yc3 i5 j5).mono ?_); rintro e w6 ⟨rfl, hB6⟩); have P6 := P5.below hB6; have Pc6 := P6.cell; clear Pc5; have S6 := S5.below hB6; have Sc6 := S6.cell; clear Sc5; have F6 := F5.below hB6; have Fc6 := F6.cell; clear Fc5; have M6 := M5.below hB6; have Mc6 := M6.cell; clear Mc5; have I6 := I5.below hB6; have Ic6 := I6.cell; clear Ic5; have L6 := L5.below hB6; have Lc6 := L6.cell; clear Lc5; have x6 := x5.below hB6; have y6 := y5.below hB6; have z6 := z5.below hB6; have i6 := i5.below hB6; have j6 := j5.below hB6; have e6 := e5.below hB6; have R6 := below_then R5 hB6)
        | (go_at_call 16; ((with_reducible refine (live03_any w6).mono ?_); rintro e w7 ⟨rfl, hB7⟩); have P7 := P6.below hB7; have Pc7 := P7.cell; clear Pc6; have S7 := S6.below hB7; have Sc7 := S7.cell; clear Sc6; have F7 := F6.below hB7; have Fc7 := F7.cell; clear Fc6; have M7 := M6.below hB7; have Mc7 := M7.cell; clear Mc6; have I7 := I6.below hB7; have Ic7 := I7.cell; clear Ic6; have L7 := L6.below hB7; have Lc7 := L7.cell; clear Lc6; have x7 := x6.below hB7; have y7 := y6.below hB7; have z7 := z6.below hB7; have i7 := i6.below hB7; have j7 := j6.below hB7; have e7 := e6.below hB7; have R7 := below_then R6 hB7))
      go_ret
      exact ⟨rfl, R7⟩

    · have hG' : (G == 0) = false := by simpa using hG
      clear e1 e2 hcp hcr hdp hdr hE hG
      go_enter Try.func10, Try.ntmps10
      go_wp2_with (first
        | (go_at_call 18; ((with_reducible refine (ca w1 x1 KK1 y1).mono ?_); rintro e u2 ⟨⟨X1, xn1, xc1, Y1, yn1, yc1, rfl, xo1, yo1, hB2⟩⟩); (obtain ⟨w2, hw2⟩ : ∃ W, u2.alloc (.cells #[.int .u8 (a).tos, .int .u16 (a).id, .bool (a).keep, .int .u8 (a).ttl, .int .u8 (a).proto, .int .u32 (a).src, .int .u32 (a).dst, .slice X1 xn1 xc1, .slice Y1 yn1 yc1] 26) = W := ⟨_, rfl⟩); have V2 : Below u2.heap.size u2 w2 := (by rw [← hw2]; (repeat (first | with_reducible exact Below.refl _ _ | with_reducible refine below_drew ?_ | with_reducible refine below_drewN ?_ _ | with_reducible refine below_alloc ?_ (Nat.le_refl _) _ | with_reducible refine Below.setCell ?_ (by first | exact Nat.le_refl _ | (simp only []; omega)) _ | with_reducible assumption))); (obtain ⟨kM2, hkM2⟩ : ∃ k : Nat, u2.heap.size = k := ⟨_, rfl⟩); have M2 : Blk w2 kM2 #[.int .u8 (a).tos, .int .u16 (a).id, .bool (a).keep, .int .u8 (a).ttl, .int .u8 (a).proto, .int .u32 (a).src, .int .u32 (a).dst, .slice X1 xn1 xc1, .slice Y1 yn1 yc1] 26 := (by rw [← hw2]; exact blk_new u2 _ _ _ hkM2); have Mc2 := M2.cell; have T2 := below_then hB2 V2; have P2 := P1.below T2; have Pc2 := P2.cell; clear Pc1; have S2 := S1.below T2; have Sc2 := S2.cell; clear Sc1; have F2 := F1.below T2; have Fc2 := F2.cell; clear Fc1; have x2 := x1.below T2; have y2 := y1.below T2; have z2 := z1.below T2; have R2 := below_then R1 T2)
        | (go_at_call 20; ((with_reducible refine (cc w2 x2 z2).mono ?_); rintro e u3 ⟨⟨X3, xn3, xc3, Y3, yn3, yc3, rfl, xo3, yo3, hB3⟩⟩); (obtain ⟨w3, hw3⟩ : ∃ W, u3.alloc (.cells #[.int .u8 (b).tos, .int .u16 (b).id, .bool (b).keep, .int .u8 (b).ttl, .int .u8 (b).proto, .int .u32 (b).src, .int .u32 (b).dst, .slice X3 xn3 xc3, .slice Y3 yn3 yc3] 26) = W := ⟨_, rfl⟩); have V3 : Below u3.heap.size u3 w3 := (by rw [← hw3]; (repeat (first | with_reducible exact Below.refl _ _ | with_reducible refine below_drew ?_ | with_reducible refine below_drewN ?_ _ | with_reducible refine below_alloc ?_ (Nat.le_refl _) _ | with_reducible refine Below.setCell ?_ (by first | exact Nat.le_refl _ | (simp only []; omega)) _ | with_reducible assumption))); (obtain ⟨kI3, hkI3⟩ : ∃ k : Nat, u3.heap.size = k := ⟨_, rfl⟩); have I3 : Blk w3 kI3 #[.int .u8 (b).tos, .int .u16 (b).id, .bool (b).keep, .int .u8 (b).ttl, .int .u8 (b).proto, .int .u32 (b).src, .int .u32 (b).dst, .slice X3 xn3 xc3, .slice Y3 yn3 yc3] 26 := (by rw [← hw3]; exact blk_new u3 _ _ _ hkI3); have Ic3 := I3.cell; have T3 := below_then hB3 V3; have P3 := P2.below T3; have Pc3 := P3.cell; clear Pc2; have S3 := S2.below T3; have Sc3 := S3.cell; clear Sc2; have F3 := F2.below T3; have Fc3 := F3.cell; clear Fc2; have M3 := M2.below T3; have Mc3 := M3.cell; clear Mc2; have x3 := x2.below T3; have y3 := y2.below T3; have z3 := z2.below T3; have R3 := below_then R2 T3)
        | (go_at_call 16; ((with_reducible refine (live03_any w3).mono ?_); rintro e w4 ⟨rfl, hB4⟩); have P4 := P3.below hB4; have Pc4 := P4.cell; clear Pc3; have S4 := S3.below hB4; have Sc4 := S4.cell; clear Sc3; have F4 := F3.below hB4; have Fc4 := F4.cell; clear Fc3; have M4 := M3.below hB4; have Mc4 := M4.cell; clear Mc3; have I4 := I3.below hB4; have Ic4 := I4.cell; clear Ic3; have x4 := x3.below hB4; have y4 := y3.below hB4; have z4 := z3.below hB4; have R4 := below_then R3 hB4))
      go_ret
      exact ⟨rfl, R4⟩
theorem segsFlips_walk (w : World) (p : Pkt) (hp : p.Ok) (A1 : Option Addr) (n1 c1 : Nat) (A2 : Option Addr) (n2 c2 : Nat) (k1 : Bs w A1 n1 c1 p.opt) (k2 : Bs w A2 n2 c2 p.dat) (s : Seg) (hs : s.Ok) (OA : Option Addr) (on oc : Nat) (A3 : Option Addr) (n3 c3 : Nat) (K1 : Os w OA on oc s.opts) (k3 : Bs w A3 n3 c3 s.dat) (hn3 : n3 ≤ 140737488351232) (x : Int) (x0 : 0 ≤ x) (x1 : x ≤ 65535) :
    Calls Try.prog 5 #[(.agg #[.int .u8 (p).tos, .int .u16 (p).id, .bool (p).keep, .int .u8 (p).ttl, .int .u8 (p).proto, .int .u32 (p).src, .int .u32 (p).dst, .slice A1 n1 c1, .slice A2 n2 c2]), (.agg #[.int .u16 (s).src, .int .u16 (s).dst, .int .u32 (s).seq, .int .u32 (s).ack, .int .u8 (s).flags, .int .u16 (s).win, .int .u16 (s).urg, .slice OA on oc, .slice A3 n3 c3]), .int .u16 x] w fun e w' => e = .returned (.bool true) ∧ Below w.heap.size w w' := by
  have ca := fun W k1 K1 k3 => sbuild_any p hp A1 n1 c1 A2 n2 c2 s hs OA on oc A3 n3 c3 W k1 K1 k3 hn3
  obtain ⟨P1, hP1⟩ : ∃ P, sbP p s = P := ⟨_, rfl⟩
  obtain ⟨E1, hE1⟩ : ∃ E, sbE p s = E := ⟨_, rfl⟩
  simp only [hP1, hE1] at ca
  by_cases h : E1 = 0
  · subst h
    rw [sb_ok hE1] at hP1
    have hN : P1.dat.length = sN s := by rw [← hP1]; exact sS_len p s
    have n9 := (wiE_zero (sbE_zero hE1).2).2.2
    have hct : ∀ j x, 0 ≤ x → x ≤ 255 → j < sN s → x ≠ bt P1.dat j → ∀ W A1 n1 c1 A2 n2 c2, Bs W A2 n2 c2 (P1.dat.set j (ub x)) → Calls Try.prog 14 #[(.agg #[.int .u8 (P1).tos, .int .u16 (P1).id, .bool (P1).keep, .int .u8 (P1).ttl, .int .u8 (P1).proto, .int .u32 (P1).src, .int .u32 (P1).dst, .slice A1 n1 c1, .slice A2 n2 c2])] W fun e w' => ∃ OB pn pc DA dn dc E, e = .returned (.tuple #[(.agg #[.int .u16 (zS).src, .int .u16 (zS).dst, .int .u32 (zS).seq, .int .u32 (zS).ack, .int .u8 (zS).flags, .int .u16 (zS).win, .int .u16 (zS).urg, .slice OB pn pc, .slice DA dn dc]), .int .i64 E]) ∧ (E != 0) = true ∧ Below W.heap.size W w' := fun j x h0 h1 hj hx W A1 n1 c1 A2 n2 c2 kb => by
      have hl := kb.len
      rw [List.length_set, hN] at hl
      have ok1 : P1.Ok := by rw [← hP1]; exact ⟨hp.1, hp.2, hp.3, by show (0 : Int) ≤ 6 ∧ (6 : Int) ≤ 255; decide, hp.5, hp.6⟩
      have hd : P1.dat = sS p s := by rw [← hP1]
      have e := sb_flip hs hE1 { P1 with dat := P1.dat.set j (ub x) } (by rw [← hP1]) (by rw [← hP1]) (by rw [← hP1]) hj (x := ub x) (by rw [ub_val, ← hd]; omega) (by rw [hd])
      have hh := tcp_any { P1 with dat := P1.dat.set j (ub x) } ⟨ok1.1, ok1.2, ok1.3, ok1.4, ok1.5, ok1.6⟩ A1 n1 c1 A2 n2 c2 W kb (by omega)
      refine hh.mono ?_
      intro e' w' hq
      obtain ⟨OB, pn, pc, DA, dn, dc, rfl, -, -, -, hB⟩ := hq.out
      have ez : tcS { P1 with dat := P1.dat.set j (ub x) } = zS := by unfold tcS; rw [if_neg e]
      rw [ez]
      exact ⟨OB, pn, pc, DA, dn, dc, _, rfl, by simpa using e, hB⟩
    have n20 : 20 ≤ sN s := by unfold sN; omega
    obtain ⟨N, hNN⟩ : ∃ N, sN s = N := ⟨_, rfl⟩
    rw [hNN] at hct hN n9 n20
    have n0' : (20 : Int) ≤ N := by omega
    obtain ⟨H, hH⟩ : ∃ H : Int, (N : Int) * 8 = H := ⟨_, rfl⟩
    have m0 : 0 ≤ x % H := Int.emod_nonneg _ (by omega)
    have m1' : x % H < H := Int.emod_lt_of_pos _ (by omega)
    have hz : (H == 0) = false := by simp; omega
    obtain ⟨q, hq⟩ : ∃ q : Int, x % H = q := ⟨_, rfl⟩
    rw [hq] at m0 m1'
    obtain ⟨j, hj⟩ : ∃ j : Nat, q / 8 = j := ⟨(q / 8).toNat, by omega⟩
    obtain ⟨r, hr⟩ : ∃ r : Int, q % 8 = r := ⟨_, rfl⟩
    have jN : (j : Int) < N := by omega
    have r0 : 0 ≤ r := by omega
    have r1 : r < 8 := by omega
    have hd1 : IntKind.i64.wrap (q.tdiv 8) = (j : Int) := by
      rw [Int.tdiv_eq_ediv_of_nonneg (by omega), hj]; simp [IntKind.wrap, IntKind.signed, IntKind.bits]; omega
    have hd2 : q.tmod 8 = r := by rw [Int.tmod_eq_emod_of_nonneg (by omega), hr]
    obtain ⟨f0, f1, f2, -⟩ := flip_any (bt_lo P1.dat j) (bt_hi P1.dat j) r0 r1
    have S1 : (0 : Int) ≤ 2 ^ r.toNat ∧ (2 : Int) ^ r.toNat ≤ 128 := by
      have : r = 0 ∨ r = 1 ∨ r = 2 ∨ r = 3 ∨ r = 4 ∨ r = 5 ∨ r = 6 ∨ r = 7 := by omega
      rcases this with e | e | e | e | e | e | e | e <;> (rw [e]; decide)
    have hS2 : (2 : Int) ^ r.toNat % 256 = 2 ^ r.toNat := by omega
    obtain ⟨S, hS⟩ : ∃ S : Int, 2 ^ r.toNat % 256 = S := ⟨_, rfl⟩
    rw [← hS2, hS] at f0 f1 f2 S1
    obtain ⟨S0, S1⟩ := S1
    clear hS2
    obtain ⟨X, hX⟩ : ∃ X, bits .xor .u8 (bt P1.dat j) S = X := ⟨_, rfl⟩
    rw [hX] at f0 f1 f2
    have hF := hct j X f0 f1 (by omega) f2
    have HN := Lib.hid hN
    clear hct hN hNN hE1 hP1 f2
    obtain ⟨k, hk⟩ : ∃ k : Nat, w.heap.size = k := ⟨_, rfl⟩
    obtain ⟨w1, hw1⟩ : ∃ W, ((w.alloc (.cells #[.int .u8 (p).tos, .int .u16 (p).id, .bool (p).keep, .int .u8 (p).ttl, .int .u8 (p).proto, .int .u32 (p).src, .int .u32 (p).dst, .slice A1 n1 c1, .slice A2 n2 c2] 26)).alloc (.cells #[.int .u16 (s).src, .int .u16 (s).dst, .int .u32 (s).seq, .int .u32 (s).ack, .int .u8 (s).flags, .int .u16 (s).win, .int .u16 (s).urg, .slice OA on oc, .slice A3 n3 c3] 29)) = W := ⟨_, rfl⟩
    have Q1 : Blk w1 k #[.int .u8 (p).tos, .int .u16 (p).id, .bool (p).keep, .int .u8 (p).ttl, .int .u8 (p).proto, .int .u32 (p).src, .int .u32 (p).dst, .slice A1 n1 c1, .slice A2 n2 c2] 26 := by rw [← hw1]; exact ((blk_new _ _ _ k (by simp [hk])).alloc _)
    have M1 : Blk w1 (k + 1) #[.int .u16 (s).src, .int .u16 (s).dst, .int .u32 (s).seq, .int .u32 (s).ack, .int .u8 (s).flags, .int .u16 (s).win, .int .u16 (s).urg, .slice OA on oc, .slice A3 n3 c3] 29 := by rw [← hw1]; exact (blk_new _ _ _ (k + 1) (by simp [hk]))
    have R1 : Below w.heap.size w w1 := by rw [← hw1]; (repeat (first | with_reducible exact Below.refl _ _ | with_reducible refine below_drew ?_ | with_reducible refine below_drewN ?_ _ | with_reducible refine below_alloc ?_ (Nat.le_refl _) _ | with_reducible refine Below.setCell ?_ (by first | exact Nat.le_refl _ | (simp only []; omega)) _ | with_reducible assumption))
    have Qc1 := Q1.cell
    have Mc1 := M1.cell
    have Ql1 := Q1.lt
    have Ml1 := M1.lt
    have x1 := (k1).below R1
    have y1 := (k3).below R1
    have KK1 := K1.below R1
    clear k1 k2 k3 K1
    go_enter Try.func5, Try.ntmps5
    go_wp2_with (first
      | (go_at_call 18; ((with_reducible refine (ca w1 x1 KK1 y1).mono ?_); rintro e u2 hpost); (obtain ⟨B2, e2, g2, C2, h2, i2, rfl, O2, N2, hB2⟩ := hpost.out); clear hpost; have uN : h2 = N := (by rw [← N2.len]; exact HN.out); subst uN; (obtain ⟨g, rfl, gl1, gl2⟩ := N2.ptr (by omega)); (obtain ⟨w2, hw2⟩ : ∃ W, u2.alloc (.cells #[.int .u8 (P1).tos, .int .u16 (P1).id, .bool (P1).keep, .int .u8 (P1).ttl, .int .u8 (P1).proto, .int .u32 (P1).src, .int .u32 (P1).dst, .slice B2 e2 g2, .slice (some ⟨g, 0, none⟩) h2 i2] 26) = W := ⟨_, rfl⟩); have V2 : Below u2.heap.size u2 w2 := (by rw [← hw2]; (repeat (first | with_reducible exact Below.refl _ _ | with_reducible refine below_drew ?_ | with_reducible refine below_drewN ?_ _ | with_reducible refine below_alloc ?_ (Nat.le_refl _) _ | with_reducible refine Below.setCell ?_ (by first | exact Nat.le_refl _ | (simp only []; omega)) _ | with_reducible assumption))); (obtain ⟨kS2, hkS2⟩ : ∃ k : Nat, u2.heap.size = k := ⟨_, rfl⟩); have S2 : Blk w2 kS2 #[.int .u8 (P1).tos, .int .u16 (P1).id, .bool (P1).keep, .int .u8 (P1).ttl, .int .u8 (P1).proto, .int .u32 (P1).src, .int .u32 (P1).dst, .slice B2 e2 g2, .slice (some ⟨g, 0, none⟩) h2 i2] 26 := (by rw [← hw2]; exact blk_new u2 _ _ _ hkS2); have Sc2 := S2.cell; have T2 := below_then hB2 V2; have o2 := (N2).below V2; have Q2 := Q1.below T2; have Qc2 := Q2.cell; clear Qc1; have M2 := M1.below T2; have Mc2 := M2.cell; clear Mc1; have x2 := x1.below T2; have y2 := y1.below T2; have R2 := below_then R1 T2))
    refine region_txt 10 (by kernel_rfl) (by kernel_rfl) ?_; (iterate 10 (first | (apply ObsK.skip (by rfl)) | (apply ObsK.v (by rfl); (intro wo hT; (repeat (first | (intro _ _ k; try have hcv := cv k))); (have sc := (S2.below hT).cell; have aj := (o2.below hT).at_ (i := j) (by omega)); refine Goes.mk ?_; go_simp; first | exact goes_v | exact goes_b (by assumption) | (refine goes_enter ?_; first | fail))) | (apply ObsK.b (by rfl); (intro wo hT; (repeat (first | (intro _ _ k; try have hcv := cv k))); (have sc := (S2.below hT).cell; have aj := (o2.below hT).at_ (i := j) (by omega)); refine Goes.mk ?_; go_simp; first | exact goes_v | exact goes_b (by assumption) | (refine goes_enter ?_; first | fail))))); refine ObsK.nil ?_; intro wz hBz; simp only [finOn, List.drop_succ_cons, List.drop_zero, List.drop_nil]
    go_simp
    have S3 := S2.below hBz
    have o3 := o2.below hBz
    have R3 := below_then R2 hBz
    have kg : g < kS2 := by omega
    have wg : w.heap.size ≤ g := Nat.le_trans R1.size gl1
    obtain ⟨w5, hw5⟩ : ∃ W, wz.setCell ⟨g, j, none⟩ (.int .u8 X) = W := ⟨_, rfl⟩
    have o5 := o3.set_ (i := j) (by omega) X (y := X) (by omega)
    have S5 := S3.far ⟨g, j, none⟩ (by show g ≠ kS2; omega) (.int .u8 X)
    have R5 := R3.setCell (p := ⟨g, j, none⟩) wg (.int .u8 X)
    have c5 := o3.at_ (i := j) (by omega)
    have sc3 := S3.cell
    rw [hw5] at o5 S5 R5
    have Sc5 := S5.cell
    
    go_wp2_with (first
      | (go_at_call 14; ((with_reducible refine (hF _ _ _ _ _ _ _ o5.bs).mono ?_); rintro e u6 ⟨OB, pn, pc, DA, dn, dc, E, rfl, hE, hB6⟩); (obtain ⟨w6, hw6⟩ : ∃ W, u6.alloc (.cells #[.int .u16 (zS).src, .int .u16 (zS).dst, .int .u32 (zS).seq, .int .u32 (zS).ack, .int .u8 (zS).flags, .int .u16 (zS).win, .int .u16 (zS).urg, .slice OB pn pc, .slice DA dn dc] 29) = W := ⟨_, rfl⟩); have V6 : Below u6.heap.size u6 w6 := (by rw [← hw6]; (repeat (first | with_reducible exact Below.refl _ _ | with_reducible refine below_drew ?_ | with_reducible refine below_drewN ?_ _ | with_reducible refine below_alloc ?_ (Nat.le_refl _) _ | with_reducible refine Below.setCell ?_ (by first | exact Nat.le_refl _ | (simp only []; omega)) _ | with_reducible assumption))); (obtain ⟨kU6, hkU6⟩ : ∃ k : Nat, u6.heap.size = k := ⟨_, rfl⟩); have U6 : Blk w6 kU6 #[.int .u16 (zS).src, .int .u16 (zS).dst, .int .u32 (zS).seq, .int .u32 (zS).ack, .int .u8 (zS).flags, .int .u16 (zS).win, .int .u16 (zS).urg, .slice OB pn pc, .slice DA dn dc] 29 := (by rw [← hw6]; exact blk_new u6 _ _ _ hkU6); have Uc6 := U6.cell; have T6 := below_then hB6 V6; have S6 := S5.below T6; have Sc6 := S6.cell; clear Sc5; have o6 := o5.below T6; have R6 := below_then R5 T6)
      | (go_at_call 16; ((with_reducible refine (live03_any _).mono ?_); rintro e w7 ⟨rfl, hB7⟩); have S7 := S6.below hB7; have Sc7 := S7.cell; clear Sc6; have U7 := U6.below hB7; have Uc7 := U7.cell; clear Uc6; have o7 := o6.below hB7; have R7 := below_then R6 hB7))
    go_ret
    exact ⟨rfl, R7⟩
  · have he : (E1 != 0) = true := by simpa using h
    clear h hP1 hE1
    obtain ⟨k, hk⟩ : ∃ k : Nat, w.heap.size = k := ⟨_, rfl⟩
    obtain ⟨w1, hw1⟩ : ∃ W, ((w.alloc (.cells #[.int .u8 (p).tos, .int .u16 (p).id, .bool (p).keep, .int .u8 (p).ttl, .int .u8 (p).proto, .int .u32 (p).src, .int .u32 (p).dst, .slice A1 n1 c1, .slice A2 n2 c2] 26)).alloc (.cells #[.int .u16 (s).src, .int .u16 (s).dst, .int .u32 (s).seq, .int .u32 (s).ack, .int .u8 (s).flags, .int .u16 (s).win, .int .u16 (s).urg, .slice OA on oc, .slice A3 n3 c3] 29)) = W := ⟨_, rfl⟩
    have Q1 : Blk w1 k #[.int .u8 (p).tos, .int .u16 (p).id, .bool (p).keep, .int .u8 (p).ttl, .int .u8 (p).proto, .int .u32 (p).src, .int .u32 (p).dst, .slice A1 n1 c1, .slice A2 n2 c2] 26 := by rw [← hw1]; exact ((blk_new _ _ _ k (by simp [hk])).alloc _)
    have M1 : Blk w1 (k + 1) #[.int .u16 (s).src, .int .u16 (s).dst, .int .u32 (s).seq, .int .u32 (s).ack, .int .u8 (s).flags, .int .u16 (s).win, .int .u16 (s).urg, .slice OA on oc, .slice A3 n3 c3] 29 := by rw [← hw1]; exact (blk_new _ _ _ (k + 1) (by simp [hk]))
    have R1 : Below w.heap.size w w1 := by rw [← hw1]; (repeat (first | with_reducible exact Below.refl _ _ | with_reducible refine below_drew ?_ | with_reducible refine below_drewN ?_ _ | with_reducible refine below_alloc ?_ (Nat.le_refl _) _ | with_reducible refine Below.setCell ?_ (by first | exact Nat.le_refl _ | (simp only []; omega)) _ | with_reducible assumption))
    have Qc1 := Q1.cell
    have Mc1 := M1.cell
    have Ql1 := Q1.lt
    have Ml1 := M1.lt
    have x1 := (k1).below R1
    have y1 := (k3).below R1
    have KK1 := K1.below R1
    clear k1 k2 k3 K1
    go_enter Try.func5, Try.ntmps5
    go_wp2_with (first
      | (go_at_call 18; ((with_reducible refine (ca w1 x1 KK1 y1).mono ?_); rintro e u2 hpost); (obtain ⟨B2, e2, g2, C2, h2, i2, rfl, O2, N2, hB2⟩ := hpost.out); clear hpost; (obtain ⟨w2, hw2⟩ : ∃ W, u2.alloc (.cells #[.int .u8 (P1).tos, .int .u16 (P1).id, .bool (P1).keep, .int .u8 (P1).ttl, .int .u8 (P1).proto, .int .u32 (P1).src, .int .u32 (P1).dst, .slice B2 e2 g2, .slice C2 h2 i2] 26) = W := ⟨_, rfl⟩); have V2 : Below u2.heap.size u2 w2 := (by rw [← hw2]; (repeat (first | with_reducible exact Below.refl _ _ | with_reducible refine below_drew ?_ | with_reducible refine below_drewN ?_ _ | with_reducible refine below_alloc ?_ (Nat.le_refl _) _ | with_reducible refine Below.setCell ?_ (by first | exact Nat.le_refl _ | (simp only []; omega)) _ | with_reducible assumption))); (obtain ⟨kS2, hkS2⟩ : ∃ k : Nat, u2.heap.size = k := ⟨_, rfl⟩); have S2 : Blk w2 kS2 #[.int .u8 (P1).tos, .int .u16 (P1).id, .bool (P1).keep, .int .u8 (P1).ttl, .int .u8 (P1).proto, .int .u32 (P1).src, .int .u32 (P1).dst, .slice B2 e2 g2, .slice C2 h2 i2] 26 := (by rw [← hw2]; exact blk_new u2 _ _ _ hkS2); have Sc2 := S2.cell; have T2 := below_then hB2 V2; have Q2 := Q1.below T2; have Qc2 := Q2.cell; clear Qc1; have M2 := M1.below T2; have Mc2 := M2.cell; clear Mc1; have x2 := x1.below T2; have y2 := y1.below T2; have R2 := below_then R1 T2)
      | (go_at_call 16; ((with_reducible refine (live03_any _).mono ?_); rintro e w3 ⟨rfl, hB3⟩); have Q3 := Q2.below hB3; have Qc3 := Q3.cell; clear Qc2; have M3 := M2.below hB3; have Mc3 := M3.cell; clear Mc2; have S3 := S2.below hB3; have Sc3 := S3.cell; clear Sc2; have x3 := x2.below hB3; have y3 := y2.below hB3; have R3 := below_then R2 hB3))
    go_ret
    exact ⟨rfl, R3⟩
end Go.Proofs.Ytjjhnjkmoogloaa

/- The Go law SegsFlips: for every input the call returns true and each argument reads as it did. No other condition. -/
namespace Go.Proofs.Ytjjhnjkmoogloaa.segsFlips
open Go.ChangeShapes Go.WideShapes Go.ChangeAt Go.RowKit
set_option linter.unusedVariables false
set_option maxRecDepth 100000 in
theorem lifted (os : Go.Os) (started : os.Started) (H : Type) (enc : TypeId × Value → H) :
    ReturnsInHanded {} Try.checked os 5 .any (Rows.segsFlipsSpec.pre6 enc Try.prog Try.f5 Rows.segsFlipsRow.domain false) (Rows.segsFlipsSpec.post enc Try.prog Try.f5 false true false false) := by
  refine returnsInHanded_of_change_sized (C := Try.checked) own_knob started (by kernel_rfl) Try.func5
    (ChangeSpec.witness6 (enc := enc) (C := Try.checked) false ⟨#[], #[.agg #[.int .u8 0, .int .u16 0, .bool false, .int .u8 0, .int .u8 0, .int .u32 0, .int .u32 0, .slice none 0 0, .slice none 0 0], .agg #[.int .u16 0, .int .u16 0, .int .u32 0, .int .u32 0, .int .u8 0, .int .u16 0, .int .u16 0, .slice none 0 0, .slice none 0 0], .int .u16 0], []⟩ 8 (by kernel_rfl) (by kernel_rfl) (by kernel_rfl) (by kernel_rfl)) ?_
  intro W base args ds gs before hval0 hW hcnd hsz0 hholds
  have hval : ∀ (j : Nat) t v, Try.f5.params[j]? = some t → args[j]? = some v → Value.okWide Try.prog W .any base t v := hval0
  have hW' := hW
  obtain ⟨p, q, hA0, hV, rfl, hfz, hnd⟩ := hW
  obtain ⟨rfl, rfl⟩ := trodVars_none hV
  have hA : DataW.TrodAll enc Try.prog W 0 (fun _ => true) true Try.f5.params.toList args.toList ds p := hA0
  have hsz : (DataW.weightsEach Try.prog [26, 29, 22] (ds ++ [])).all (· ≤ reachBytes) = true := hsz0
  simp only [List.append_nil] at hsz
  rw [Try.params5] at hA hval
  obtain ⟨v0, vs0, d0, ds0, p0, q0, hargs, rfl, rfl, h0, r0⟩ := trodAll_cons hA
  obtain ⟨v1, vs1, d1, ds1, p1, q1, rfl, rfl, rfl, h1, r1⟩ := trodAll_cons r0
  obtain ⟨v2, vs2, d2, ds2, p2, q2, rfl, rfl, rfl, h2, r2⟩ := trodAll_cons r1
  obtain ⟨rfl, rfl, rfl⟩ := trodAll_nil r2
  obtain rfl : args = #[v0, v1, v2] := by cases args; simp_all
  obtain ⟨pk0, A0, n0, c0, B0, m0, e0, rfl, ok0, ka0, kb0⟩ := open_pkt (hval 0 26 v0 rfl rfl) h0 (fun n hn => by simpa using List.all_eq_true.1 hsz n (DataW.weights_mem_each (j := 0) rfl rfl n hn))
  obtain ⟨sg1, OA1, on1, oc1, A1, n1, c1, rfl, ok1, KA1, ka1, hm1⟩ := open_seg (hval 1 29 v1 rfl rfl) h1 (fun n hn => by simpa using List.all_eq_true.1 hsz n (DataW.weights_mem_each (j := 1) rfl rfl n hn))
  obtain ⟨a2, rfl, rfl, rfl, w2⟩ := open_int Try.underlying22 (hval 2 22 v2 rfl rfl) h2
  have b2 : 0 ≤ a2 ∧ a2 ≤ 65535 := by simpa [Lit.wf, IntKind.min, IntKind.max, IntKind.signed, IntKind.bits] using w2
  refine (segsFlips_walk W pk0 ok0 A0 n0 c0 B0 m0 e0 ka0 kb0 sg1 ok1 OA1 on1 oc1 A1 n1 c1 KA1 ka1 hm1 a2 b2.1 b2.2).mono fun e W' ⟨he, bel⟩ => ?_
  subst he
  exact ⟨_, rfl, law_post Try.underlying4 rfl laid_out (by kernel_rfl) rfl rfl hW' bel⟩
theorem proved : Rows.SegsFlipsSaid :=
  OpenClaim.holds_of_wide 5 Try.f5 rfl rfl rfl rfl rfl rfl rfl ⟨rfl, rfl, rfl, rfl, rfl⟩ rfl rfl rfl rfl rfl (by kernel_rfl) Try.func5 (by kernel_rfl)
    (of_decide_eq_true (by kernel_rfl)) (by unfold Func.isWrapper; first | (rw [if_pos (by decide +kernel)]; kernel_rfl) | (rw [if_neg (by decide +kernel)]; exact ⟨rfl, rfl⟩))
    (fun os started H enc _ => lifted os started H enc)
end Go.Proofs.Ytjjhnjkmoogloaa.segsFlips
#print axioms Go.Proofs.Ytjjhnjkmoogloaa.segsFlips.proved

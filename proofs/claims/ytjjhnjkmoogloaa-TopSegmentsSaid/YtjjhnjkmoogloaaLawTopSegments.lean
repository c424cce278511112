/- The Go law TopSegments: for every input the call returns true and each argument reads as it did. No other condition. -/
import Derived.Test.YtjjhnjkmoogloaaK5
import Derived.Test.YtjjhnjkmoogloaaK6
import Derived.Test.YtjjhnjkmoogloaaK2
/- TopSegments. -/
namespace Go.Proofs.Ytjjhnjkmoogloaa
open Go.RowKit
set_option linter.unusedVariables false
set_option linter.unusedSimpArgs false
set_option maxHeartbeats 4000000
set_option maxRecDepth 100000

theorem ipsame_self (p : Pkt) (A1 : Option Addr) (n1 c1 : Nat) (A2 : Option Addr) (n2 c2 : Nat) (B1 : Option Addr) (m1 d1 : Nat) (B2 : Option Addr) (m2 d2 : Nat) (w : World)
    (k1 : Bs w A1 n1 c1 p.opt) (k2 : Bs w A2 n2 c2 p.dat) (j1 : Bs w B1 m1 d1 p.opt) (j2 : Bs w B2 m2 d2 p.dat) :
    Calls Try.prog 35 #[(.agg #[.int .u8 (p).tos, .int .u16 (p).id, .bool (p).keep, .int .u8 (p).ttl, .int .u8 (p).proto, .int .u32 (p).src, .int .u32 (p).dst, .slice A1 n1 c1, .slice A2 n2 c2]), (.agg #[.int .u8 (p).tos, .int .u16 (p).id, .bool (p).keep, .int .u8 (p).ttl, .int .u8 (p).proto, .int .u32 (p).src, .int .u32 (p).dst, .slice B1 m1 d1, .slice B2 m2 d2])] w fun e w' => e = .returned (.bool true) ∧ Below w.heap.size w w' := by
  have h := same_any p p A1 n1 c1 A2 n2 c2 B1 m1 d1 B2 m2 d2 w k1 k2 j1 j2
  rw [sameP_self] at h
  exact h
theorem topSegments_walk (w : World) (p : Pkt) (hp : p.Ok) (A1 : Option Addr) (n1 c1 : Nat) (A2 : Option Addr) (n2 c2 : Nat) (k1 : Bs w A1 n1 c1 p.opt) (k2 : Bs w A2 n2 c2 p.dat) (s : Seg) (hs : s.Ok) (OA : Option Addr) (on oc : Nat) (A3 : Option Addr) (n3 c3 : Nat) (K1 : Os w OA on oc s.opts) (k3 : Bs w A3 n3 c3 s.dat) (hn3 : n3 ≤ 140737488351232) :
    Calls Try.prog 13 #[(.agg #[.int .u8 (p).tos, .int .u16 (p).id, .bool (p).keep, .int .u8 (p).ttl, .int .u8 (p).proto, .int .u32 (p).src, .int .u32 (p).dst, .slice A1 n1 c1, .slice A2 n2 c2]), (.agg #[.int .u16 (s).src, .int .u16 (s).dst, .int .u32 (s).seq, .int .u32 (s).ack, .int .u8 (s).flags, .int .u16 (s).win, .int .u16 (s).urg, .slice OA on oc, .slice A3 n3 c3])] w fun e w' => e = .returned (.bool true) ∧ Below w.heap.size w w' := by
  have ca := fun W k1 K1 k3 => sbuild_any p hp A1 n1 c1 A2 n2 c2 s hs OA on oc A3 n3 c3 W k1 K1 k3 hn3
  have cz : ∀ W, Calls Try.prog 18 #[.agg #[.int .u8 0, .int .u16 0, .bool false, .int .u8 0, .int .u8 0, .int .u32 0, .int .u32 0, .slice none 0 0, .slice none 0 0], .agg #[.int .u16 0, .int .u16 0, .int .u32 0, .int .u32 0, .int .u8 0, .int .u16 0, .int .u16 0, .slice none 0 0, .slice none 0 0]] W fun e w' => ∃ B1 m1 d1 B2 m2 d2, e = .returned (.tuple #[(.agg #[.int .u8 (sbP zP zS).tos, .int .u16 (sbP zP zS).id, .bool (sbP zP zS).keep, .int .u8 (sbP zP zS).ttl, .int .u8 (sbP zP zS).proto, .int .u32 (sbP zP zS).src, .int .u32 (sbP zP zS).dst, .slice B1 m1 d1, .slice B2 m2 d2]), .int .i64 0]) ∧ Below W.heap.size W w' := fun W => by
    refine (sbuild_any zP ⟨by decide, by decide, by decide, by decide, by decide, by decide⟩ none 0 0 none 0 0 zS zS_ok none 0 0 none 0 0 W (Bs.none_ _) (Os.none_ _) (Bs.none_ _) (by omega)).mono ?_
    intro e w' hq
    obtain ⟨B1, m1, d1, B2, m2, d2, rfl, -, -, h3⟩ := hq.out
    have e2 : sbE zP zS = 0 := by kernel_rfl
    rw [e2]
    exact ⟨B1, m1, d1, B2, m2, d2, rfl, h3⟩
  obtain ⟨E, hE⟩ : ∃ E, sbE p s = E := ⟨_, rfl⟩
  obtain ⟨q, hq⟩ : ∃ q, sbP p s = q := ⟨_, rfl⟩
  simp only [hq, hE] at ca
  by_cases h : E = 0
  · subst h
    have hb := sb_back hs hE
    have hok : q.Ok := by
      rw [← hq]; unfold sbP; rw [if_pos hE]
      exact ⟨hp.1, hp.2, hp.3, by show (0 : Int) ≤ 6 ∧ (6 : Int) ≤ 255; decide, hp.5, hp.6⟩
    rw [hq] at hb
    obtain ⟨b1, b2, b3, -, -, -, -⟩ := hb
    have hbd : bdE q = 0 := (bdE_zero_iff q).2 b3
    have hz := bdE_zero hbd
    have hbk := rd_back hok hbd []
    have hpk := rdPk_back hok hbd []
    rw [List.append_nil] at hbk hpk
    have cb := fun W A1 n1 c1 A2 n2 c2 k1 k2 => bd_any q hok A1 n1 c1 A2 n2 c2 W k1 k2
    rw [hbd] at cb
    have cp := fun W A n c hb => ipParse_v hpk hbk.1 A n c W hb
    have ct : ∀ W A1 n1 c1 A2 n2 c2, Bs W A2 n2 c2 q.dat → Calls Try.prog 14 #[(.agg #[.int .u8 (q).tos, .int .u16 (q).id, .bool (q).keep, .int .u8 (q).ttl, .int .u8 (q).proto, .int .u32 (q).src, .int .u32 (q).dst, .slice A1 n1 c1, .slice A2 n2 c2])] W (TcPost W s 0) := fun W A1 n1 c1 A2 n2 c2 k => by
      have hl := k.len
      have hh := tcp_any q hok A1 n1 c1 A2 n2 c2 W k (by omega)
      rw [b1, b2] at hh
      exact hh
    have cs := fun W A1 n1 c1 A2 n2 c2 B1 m1 d1 B2 m2 d2 h1 h2 h3 h4 => ipsame_self q A1 n1 c1 A2 n2 c2 B1 m1 d1 B2 m2 d2 W h1 h2 h3 h4
    have cst := fun W OA on oc DA dn dc PA pn pc EA en ec K1 k1 K2 k2 => tsame_any s s OA on oc DA dn dc PA pn pc EA en ec W K1 k1 K2 k2
    simp only [sameS_self] at cst
    have ok6 := fun o h => (K1.ok o h)
    clear hE hq hok b1 b2 b3 hbd hz hbk hpk
    obtain ⟨k, hk⟩ : ∃ k : Nat, w.heap.size = k := ⟨_, rfl⟩
    obtain ⟨w1, hw1⟩ : ∃ W, ((w.alloc (.cells #[.int .u8 (p).tos, .int .u16 (p).id, .bool (p).keep, .int .u8 (p).ttl, .int .u8 (p).proto, .int .u32 (p).src, .int .u32 (p).dst, .slice A1 n1 c1, .slice A2 n2 c2] 26)).alloc (.cells #[.int .u16 (s).src, .int .u16 (s).dst, .int .u32 (s).seq, .int .u32 (s).ack, .int .u8 (s).flags, .int .u16 (s).win, .int .u16 (s).urg, .slice OA on oc, .slice A3 n3 c3] 29)) = W := ⟨_, rfl⟩
    have P1 : Blk w1 k #[.int .u8 (p).tos, .int .u16 (p).id, .bool (p).keep, .int .u8 (p).ttl, .int .u8 (p).proto, .int .u32 (p).src, .int .u32 (p).dst, .slice A1 n1 c1, .slice A2 n2 c2] 26 := by rw [← hw1]; exact ((blk_new _ _ _ k (by simp [hk])).alloc _)
    have S1 : Blk w1 (k + 1) #[.int .u16 (s).src, .int .u16 (s).dst, .int .u32 (s).seq, .int .u32 (s).ack, .int .u8 (s).flags, .int .u16 (s).win, .int .u16 (s).urg, .slice OA on oc, .slice A3 n3 c3] 29 := by rw [← hw1]; exact (blk_new _ _ _ (k + 1) (by simp [hk]))
    have R1 : Below w.heap.size w w1 := by rw [← hw1]; (repeat (first | with_reducible exact Below.refl _ _ | with_reducible refine below_drew ?_ | with_reducible refine below_drewN ?_ _ | with_reducible refine below_alloc ?_ (Nat.le_refl _) _ | with_reducible refine Below.setCell ?_ (by first | exact Nat.le_refl _ | (simp only []; omega)) _ | with_reducible assumption))
    have Pc1 := P1.cell
    have Sc1 := S1.cell
    have Pl1 := P1.lt
    have Sl1 := S1.lt
    have x1 := (k1).below R1
    have y1 := (k3).below R1
    have KK1 := K1.below R1
    clear k1 k2 k3 K1
    go_enter Try.func13, Try.ntmps13
    go_wp2_with (first
      | (go_at_call 18; ((with_reducible refine (ca w1 x1 KK1 y1).mono ?_); rintro e u2 ⟨⟨X1, xn1, xc1, Y1, yn1, yc1, rfl, xo1, yo1, hB2⟩⟩); (obtain ⟨w2, hw2⟩ : ∃ W, u2.alloc (.cells #[.int .u8 (q).tos, .int .u16 (q).id, .bool (q).keep, .int .u8 (q).ttl, .int .u8 (q).proto, .int .u32 (q).src, .int .u32 (q).dst, .slice X1 xn1 xc1, .slice Y1 yn1 yc1] 26) = W := ⟨_, rfl⟩); have V2 : Below u2.heap.size u2 w2 := (by rw [← hw2]; (repeat (first | with_reducible exact Below.refl _ _ | with_reducible refine below_drew ?_ | with_reducible refine below_drewN ?_ _ | with_reducible refine below_alloc ?_ (Nat.le_refl _) _ | with_reducible refine Below.setCell ?_ (by first | exact Nat.le_refl _ | (simp only []; omega)) _ | with_reducible assumption))); (obtain ⟨kM2, hkM2⟩ : ∃ k : Nat, u2.heap.size = k := ⟨_, rfl⟩); have M2 : Blk w2 kM2 #[.int .u8 (q).tos, .int .u16 (q).id, .bool (q).keep, .int .u8 (q).ttl, .int .u8 (q).proto, .int .u32 (q).src, .int .u32 (q).dst, .slice X1 xn1 xc1, .slice Y1 yn1 yc1] 26 := (by rw [← hw2]; exact blk_new u2 _ _ _ hkM2); have Mc2 := M2.cell; have T2 := below_then hB2 V2; have s2 := (xo1.bs).below V2; have t2 := (yo1.bs).below V2; have P2 := P1.below T2; have Pc2 := P2.cell; clear Pc1; have S2 := S1.below T2; have Sc2 := S2.cell; clear Sc1; have x2 := x1.below T2; have y2 := y1.below T2; have R2 := below_then R1 T2; have KK2 := KK1.below T2)
      | (go_at_call 33; ((with_reducible refine (cb w2 X1 xn1 xc1 Y1 yn1 yc1 s2 t2).mono ?_); rintro e w3 ⟨A9, n9, c9, rfl, ho9, hB3⟩); have z3 := ho9.bs; have P3 := P2.below hB3; have Pc3 := P3.cell; clear Pc2; have S3 := S2.below hB3; have Sc3 := S3.cell; clear Sc2; have M3 := M2.below hB3; have Mc3 := M3.cell; clear Mc2; have x3 := x2.below hB3; have y3 := y2.below hB3; have s3 := s2.below hB3; have t3 := t2.below hB3; have R3 := below_then R2 hB3; have KK3 := KK2.below hB3)
      | (go_at_call 34; ((with_reducible refine (cp w3 A9 n9 c9 z3).mono ?_); rintro e u4 ⟨Z1, zn1, zc1, Z2, zn2, zc2, rfl, zo1, zo2, hB4⟩); (obtain ⟨w4, hw4⟩ : ∃ W, u4.alloc (.cells #[.int .u8 (q).tos, .int .u16 (q).id, .bool (q).keep, .int .u8 (q).ttl, .int .u8 (q).proto, .int .u32 (q).src, .int .u32 (q).dst, .slice Z1 zn1 zc1, .slice Z2 zn2 zc2] 26) = W := ⟨_, rfl⟩); have V4 : Below u4.heap.size u4 w4 := (by rw [← hw4]; (repeat (first | with_reducible exact Below.refl _ _ | with_reducible refine below_drew ?_ | with_reducible refine below_drewN ?_ _ | with_reducible refine below_alloc ?_ (Nat.le_refl _) _ | with_reducible refine Below.setCell ?_ (by first | exact Nat.le_refl _ | (simp only []; omega)) _ | with_reducible assumption))); (obtain ⟨kN4, hkN4⟩ : ∃ k : Nat, u4.heap.size = k := ⟨_, rfl⟩); have N4 : Blk w4 kN4 #[.int .u8 (q).tos, .int .u16 (q).id, .bool (q).keep, .int .u8 (q).ttl, .int .u8 (q).proto, .int .u32 (q).src, .int .u32 (q).dst, .slice Z1 zn1 zc1, .slice Z2 zn2 zc2] 26 := (by rw [← hw4]; exact blk_new u4 _ _ _ hkN4); have Nc4 := N4.cell; have T4 := below_then hB4 V4; have u4 := (zo1).below V4; have v4 := (zo2).below V4; have P4 := P3.below T4; have Pc4 := P4.cell; clear Pc3; have S4 := S3.below T4; have Sc4 := S4.cell; clear Sc3; have M4 := M3.below T4; have Mc4 := M4.cell; clear Mc3; have x4 := x3.below T4; have y4 := y3.below T4; have s4 := s3.below T4; have t4 := t3.below T4; have z4 := z3.below T4; have R4 := below_then R3 T4; have KK4 := KK3.below T4)
      | (go_at_call 14; ((with_reducible refine (ct w4 Z1 zn1 zc1 Z2 zn2 zc2 v4).mono ?_); rintro e u5 ⟨⟨OB, pn, pc, DA, dn, dc, rfl, OO, h40, DD, hB5⟩⟩); (obtain ⟨w5, hw5⟩ : ∃ W, u5.alloc (.cells #[.int .u16 (s).src, .int .u16 (s).dst, .int .u32 (s).seq, .int .u32 (s).ack, .int .u8 (s).flags, .int .u16 (s).win, .int .u16 (s).urg, .slice OB pn pc, .slice DA dn dc] 29) = W := ⟨_, rfl⟩); have V5 : Below u5.heap.size u5 w5 := (by rw [← hw5]; (repeat (first | with_reducible exact Below.refl _ _ | with_reducible refine below_drew ?_ | with_reducible refine below_drewN ?_ _ | with_reducible refine below_alloc ?_ (Nat.le_refl _) _ | with_reducible refine Below.setCell ?_ (by first | exact Nat.le_refl _ | (simp only []; omega)) _ | with_reducible assumption))); (obtain ⟨kL5, hkL5⟩ : ∃ k : Nat, u5.heap.size = k := ⟨_, rfl⟩); have L5 : Blk w5 kL5 #[.int .u16 (s).src, .int .u16 (s).dst, .int .u32 (s).seq, .int .u32 (s).ack, .int .u8 (s).flags, .int .u16 (s).win, .int .u16 (s).urg, .slice OB pn pc, .slice DA dn dc] 29 := (by rw [← hw5]; exact blk_new u5 _ _ _ hkL5); have Lc5 := L5.cell; have T5 := below_then hB5 V5; have d5 := (DD.bs).below V5; have P5 := P4.below T5; have Pc5 := P5.cell; clear Pc4; have S5 := S4.below T5; have Sc5 := S5.cell; clear Sc4; have M5 := M4.below T5; have Mc5 := M5.cell; clear Mc4; have N5 := N4.below T5; have Nc5 := N5.cell; clear Nc4; have x5 := x4.below T5; have y5 := y4.below T5; have s5 := s4.below T5; have t5 := t4.below T5; have z5 := z4.below T5; have u5 := u4.below T5; have v5 := v4.below T5; have R5 := below_then R4 T5; have KP5 := (OO.os (by omega) ok6).below V5; have KK5 := KK4.below T5)
      | (go_at_call 35; ((with_reducible refine (cs w5 X1 xn1 xc1 Y1 yn1 yc1 Z1 zn1 zc1 Z2 zn2 zc2 s5 t5 u5 v5).mono ?_); rintro e w6 ⟨rfl, hB6⟩); have P6 := P5.below hB6; have Pc6 := P6.cell; clear Pc5; have S6 := S5.below hB6; have Sc6 := S6.cell; clear Sc5; have M6 := M5.below hB6; have Mc6 := M6.cell; clear Mc5; have N6 := N5.below hB6; have Nc6 := N6.cell; clear Nc5; have L6 := L5.below hB6; have Lc6 := L6.cell; clear Lc5; have x6 := x5.below hB6; have y6 := y5.below hB6; have s6 := s5.below hB6; have t6 := t5.below hB6; have z6 := z5.below hB6; have u6 := u5.below hB6; have v6 := v5.below hB6; have d6 := d5.below hB6; have R6 := below_then R5 hB6; have KP6 := KP5.below hB6; have KK6 := KK5.below hB6)
      | (go_at_call 31; ((with_reducible refine (cst w6 OA on oc A3 n3 c3 OB pn pc DA dn dc KK6 y6 KP6 d6).mono ?_); rintro e w7 ⟨rfl, hB7⟩); have P7 := P6.below hB7; have Pc7 := P7.cell; clear Pc6; have S7 := S6.below hB7; have Sc7 := S7.cell; clear Sc6; have M7 := M6.below hB7; have Mc7 := M7.cell; clear Mc6; have N7 := N6.below hB7; have Nc7 := N7.cell; clear Nc6; have L7 := L6.below hB7; have Lc7 := L7.cell; clear Lc6; have x7 := x6.below hB7; have y7 := y6.below hB7; have s7 := s6.below hB7; have t7 := t6.below hB7; have z7 := z6.below hB7; have u7 := u6.below hB7; have v7 := v6.below hB7; have d7 := d6.below hB7; have R7 := below_then R6 hB7))
    go_ret
    exact ⟨rfl, R7⟩
  · have he : (E != 0) = true := by simpa using h
    clear h hE hq
    obtain ⟨z, hz⟩ : ∃ z, sbP zP zS = z := ⟨_, rfl⟩
    rw [hz] at cz
    clear hz
    obtain ⟨k, hk⟩ : ∃ k : Nat, w.heap.size = k := ⟨_, rfl⟩
    obtain ⟨w1, hw1⟩ : ∃ W, ((w.alloc (.cells #[.int .u8 (p).tos, .int .u16 (p).id, .bool (p).keep, .int .u8 (p).ttl, .int .u8 (p).proto, .int .u32 (p).src, .int .u32 (p).dst, .slice A1 n1 c1, .slice A2 n2 c2] 26)).alloc (.cells #[.int .u16 (s).src, .int .u16 (s).dst, .int .u32 (s).seq, .int .u32 (s).ack, .int .u8 (s).flags, .int .u16 (s).win, .int .u16 (s).urg, .slice OA on oc, .slice A3 n3 c3] 29)) = W := ⟨_, rfl⟩
    have P1 : Blk w1 k #[.int .u8 (p).tos, .int .u16 (p).id, .bool (p).keep, .int .u8 (p).ttl, .int .u8 (p).proto, .int .u32 (p).src, .int .u32 (p).dst, .slice A1 n1 c1, .slice A2 n2 c2] 26 := by rw [← hw1]; exact ((blk_new _ _ _ k (by simp [hk])).alloc _)
    have S1 : Blk w1 (k + 1) #[.int .u16 (s).src, .int .u16 (s).dst, .int .u32 (s).seq, .int .u32 (s).ack, .int .u8 (s).flags, .int .u16 (s).win, .int .u16 (s).urg, .slice OA on oc, .slice A3 n3 c3] 29 := by rw [← hw1]; exact (blk_new _ _ _ (k + 1) (by simp [hk]))
    have R1 : Below w.heap.size w w1 := by rw [← hw1]; (repeat (first | with_reducible exact Below.refl _ _ | with_reducible refine below_drew ?_ | with_reducible refine below_drewN ?_ _ | with_reducible refine below_alloc ?_ (Nat.le_refl _) _ | with_reducible refine Below.setCell ?_ (by first | exact Nat.le_refl _ | (simp only []; omega)) _ | with_reducible assumption))
    have Pc1 := P1.cell
    have Sc1 := S1.cell
    have Pl1 := P1.lt
    have Sl1 := S1.lt
    have x1 := (k1).below R1
    have y1 := (k3).below R1
    have KK1 := K1.below R1
    clear k1 k2 k3 K1
    go_enter Try.func13, Try.ntmps13
    go_wp2_with (first
      | (go_at_call 18; ((with_reducible refine (ca w1 x1 KK1 y1).mono ?_); rintro e u2 ⟨⟨X1, xn1, xc1, Y1, yn1, yc1, rfl, xo1, yo1, hB2⟩⟩); (obtain ⟨w2, hw2⟩ : ∃ W, u2.alloc (.cells #[.int .u8 (q).tos, .int .u16 (q).id, .bool (q).keep, .int .u8 (q).ttl, .int .u8 (q).proto, .int .u32 (q).src, .int .u32 (q).dst, .slice X1 xn1 xc1, .slice Y1 yn1 yc1] 26) = W := ⟨_, rfl⟩); have V2 : Below u2.heap.size u2 w2 := (by rw [← hw2]; (repeat (first | with_reducible exact Below.refl _ _ | with_reducible refine below_drew ?_ | with_reducible refine below_drewN ?_ _ | with_reducible refine below_alloc ?_ (Nat.le_refl _) _ | with_reducible refine Below.setCell ?_ (by first | exact Nat.le_refl _ | (simp only []; omega)) _ | with_reducible assumption))); (obtain ⟨kM2, hkM2⟩ : ∃ k : Nat, u2.heap.size = k := ⟨_, rfl⟩); have M2 : Blk w2 kM2 #[.int .u8 (q).tos, .int .u16 (q).id, .bool (q).keep, .int .u8 (q).ttl, .int .u8 (q).proto, .int .u32 (q).src, .int .u32 (q).dst, .slice X1 xn1 xc1, .slice Y1 yn1 yc1] 26 := (by rw [← hw2]; exact blk_new u2 _ _ _ hkM2); have Mc2 := M2.cell; have T2 := below_then hB2 V2; have P2 := P1.below T2; have Pc2 := P2.cell; clear Pc1; have S2 := S1.below T2; have Sc2 := S2.cell; clear Sc1; have x2 := x1.below T2; have y2 := y1.below T2; have R2 := below_then R1 T2)
      | (go_at_call 18; ((with_reducible refine (cz w2).mono ?_); rintro e u3 ⟨X3, xn3, xc3, Y3, yn3, yc3, rfl, hB3⟩); (obtain ⟨w3, hw3⟩ : ∃ W, u3.alloc (.cells #[.int .u8 (z).tos, .int .u16 (z).id, .bool (z).keep, .int .u8 (z).ttl, .int .u8 (z).proto, .int .u32 (z).src, .int .u32 (z).dst, .slice X3 xn3 xc3, .slice Y3 yn3 yc3] 26) = W := ⟨_, rfl⟩); have V3 : Below u3.heap.size u3 w3 := (by rw [← hw3]; (repeat (first | with_reducible exact Below.refl _ _ | with_reducible refine below_drew ?_ | with_reducible refine below_drewN ?_ _ | with_reducible refine below_alloc ?_ (Nat.le_refl _) _ | with_reducible refine Below.setCell ?_ (by first | exact Nat.le_refl _ | (simp only []; omega)) _ | with_reducible assumption))); (obtain ⟨kN3, hkN3⟩ : ∃ k : Nat, u3.heap.size = k := ⟨_, rfl⟩); have N3 : Blk w3 kN3 #[.int .u8 (z).tos, .int .u16 (z).id, .bool (z).keep, .int .u8 (z).ttl, .int .u8 (z).proto, .int .u32 (z).src, .int .u32 (z).dst, .slice X3 xn3 xc3, .slice Y3 yn3 yc3] 26 := (by rw [← hw3]; exact blk_new u3 _ _ _ hkN3); have Nc3 := N3.cell; have T3 := below_then hB3 V3; have P3 := P2.below T3; have Pc3 := P3.cell; clear Pc2; have S3 := S2.below T3; have Sc3 := S3.cell; clear Sc2; have M3 := M2.below T3; have Mc3 := M3.cell; clear Mc2; have x3 := x2.below T3; have y3 := y2.below T3; have R3 := below_then R2 T3))
    go_ret
    exact ⟨rfl, R3⟩
end Go.Proofs.Ytjjhnjkmoogloaa

/- The Go law TopSegments: for every input the call returns true and each argument reads as it did. No other condition. -/
namespace Go.Proofs.Ytjjhnjkmoogloaa.topSegments
open Go.ChangeShapes Go.WideShapes Go.ChangeAt Go.RowKit
set_option linter.unusedVariables false
set_option maxRecDepth 100000 in
theorem lifted (os : Go.Os) (started : os.Started) (H : Type) (enc : TypeId × Value → H) :
    ReturnsInHanded {} Try.checked os 13 .any (Rows.topSegmentsSpec.pre6 enc Try.prog Try.f13 Rows.topSegmentsRow.domain false) (Rows.topSegmentsSpec.post enc Try.prog Try.f13 false true false false) := by
  refine returnsInHanded_of_change_sized (C := Try.checked) own_knob started (by kernel_rfl) Try.func13
    (ChangeSpec.witness6 (enc := enc) (C := Try.checked) false ⟨#[], #[.agg #[.int .u8 0, .int .u16 0, .bool false, .int .u8 0, .int .u8 0, .int .u32 0, .int .u32 0, .slice none 0 0, .slice none 0 0], .agg #[.int .u16 0, .int .u16 0, .int .u32 0, .int .u32 0, .int .u8 0, .int .u16 0, .int .u16 0, .slice none 0 0, .slice none 0 0]], []⟩ 8 (by kernel_rfl) (by kernel_rfl) (by kernel_rfl) (by kernel_rfl)) ?_
  intro W base args ds gs before hval0 hW hcnd hsz0 hholds
  have hval : ∀ (j : Nat) t v, Try.f13.params[j]? = some t → args[j]? = some v → Value.okWide Try.prog W .any base t v := hval0
  have hW' := hW
  obtain ⟨p, q, hA0, hV, rfl, hfz, hnd⟩ := hW
  obtain ⟨rfl, rfl⟩ := trodVars_none hV
  have hA : DataW.TrodAll enc Try.prog W 0 (fun _ => true) true Try.f13.params.toList args.toList ds p := hA0
  have hsz : (DataW.weightsEach Try.prog [26, 29] (ds ++ [])).all (· ≤ reachBytes) = true := hsz0
  simp only [List.append_nil] at hsz
  rw [Try.params13] at hA hval
  obtain ⟨v0, vs0, d0, ds0, p0, q0, hargs, rfl, rfl, h0, r0⟩ := trodAll_cons hA
  obtain ⟨v1, vs1, d1, ds1, p1, q1, rfl, rfl, rfl, h1, r1⟩ := trodAll_cons r0
  obtain ⟨rfl, rfl, rfl⟩ := trodAll_nil r1
  obtain rfl : args = #[v0, v1] := by cases args; simp_all
  obtain ⟨pk0, A0, n0, c0, B0, m0, e0, rfl, ok0, ka0, kb0⟩ := open_pkt (hval 0 26 v0 rfl rfl) h0 (fun n hn => by simpa using List.all_eq_true.1 hsz n (DataW.weights_mem_each (j := 0) rfl rfl n hn))
  obtain ⟨sg1, OA1, on1, oc1, A1, n1, c1, rfl, ok1, KA1, ka1, hm1⟩ := open_seg (hval 1 29 v1 rfl rfl) h1 (fun n hn => by simpa using List.all_eq_true.1 hsz n (DataW.weights_mem_each (j := 1) rfl rfl n hn))
  refine (topSegments_walk W pk0 ok0 A0 n0 c0 B0 m0 e0 ka0 kb0 sg1 ok1 OA1 on1 oc1 A1 n1 c1 KA1 ka1 hm1).mono fun e W' ⟨he, bel⟩ => ?_
  subst he
  exact ⟨_, rfl, law_post Try.underlying4 rfl laid_out (by kernel_rfl) rfl rfl hW' bel⟩
theorem proved : Rows.TopSegmentsSaid :=
  OpenClaim.holds_of_wide 13 Try.f13 rfl rfl rfl rfl rfl rfl rfl ⟨rfl, rfl, rfl, rfl, rfl⟩ rfl rfl rfl rfl rfl (by kernel_rfl) Try.func13 (by kernel_rfl)
    (of_decide_eq_true (by kernel_rfl)) (by unfold Func.isWrapper; first | (rw [if_pos (by decide +kernel)]; kernel_rfl) | (rw [if_neg (by decide +kernel)]; exact ⟨rfl, rfl⟩))
    (fun os started H enc _ => lifted os started H enc)
end Go.Proofs.Ytjjhnjkmoogloaa.topSegments
#print axioms Go.Proofs.Ytjjhnjkmoogloaa.topSegments.proved
